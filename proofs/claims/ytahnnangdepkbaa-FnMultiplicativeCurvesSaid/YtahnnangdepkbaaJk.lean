/-
  The program's Frobenius of a curve.
-/
import Derived.Test.YtahnnangdepkbaaJi
import Derived.Test.YtahnnangdepkbaaQb
namespace Go.Proofs.Ytahnnangdepkbaa
open Go.RowKit
set_option linter.unusedSimpArgs false
set_option linter.unusedVariables false
set_option linter.unusedSectionVars false
set_option maxRecDepth 20000
-- The program's Frobenius of a curve.
theorem ruL_len (n : Nat) : (ruL n).length ≤ 1000 := by
  unfold ruL
  split
  · simp
  · split
    · simp
    · split <;> simp
set_option maxHeartbeats 4000000 in
theorem c_impl_Plane_frobenius (m : Int) (ll : List (List Int)) (a : List Int) (N d : Nat) (hm : 1 < m) (hm2 : m ≤ 10000) (hl : Pl m (d + 1) ll) (hal : a.length = d + 1) (ha : ∀ x ∈ a, 0 ≤ x ∧ x < m) (hN1 : 2 ≤ N) (hN2 : N ≤ 5) (hd : d ≤ 900) : AFn Try.prog 25 [.agg [.int .i64 m, .sl false 27 (rowsF ll)], .agg [.int .i64 m, .sl false 2 (intL a)], .int .i64 N] (.agg [.int .i64 m, .sl true 2 (intL (frW m N d (pc ll) a))]) := by
  refine AFn.of' ttOk (by decide) Try.func25 Try.ntmps25 (by rw [Try.results25]) (by rfl) (by rfl) (by simp) (by decide) (by simp only [go_sem, Nat.reduceAdd, ↓reduceIte]; rfl) mixed (fun C hP hM hC => ?_)
  have hCy := c_impl_cyclotomic N hN1 hN2
  have hr := ruL_pos N
  have hr2 := ruL_len N
  have hrb := ruL_low N
  rw [frW]
  generalize ruL N = r at *
  have hn0 := c_impl_rooted_number m 0 r hr hr2
  have hn1 := c_impl_rooted_number m 1 r hr hr2
  have hdg := c_impl_Series_degree m a (by omega)
  rw [hal, show ((d + 1 : Nat) : Int) - 1 = (d : Int) by omega] at hdg
  (repeat (first | ((with_reducible refine rgn_cons rfl (fun K hK => ?_)); simp only [go_sem, seval, ↓reduceIte, decide_true, decide_false, hal]; (first | refine hK _ _ _ (by simp only [go_sem, Nat.reduceEqDiff, ↓reduceIte]; rfl) ?_ | refine ⟨_, hCy, hK _ _ _ (by simp only [go_sem, Nat.reduceEqDiff, ↓reduceIte]; rfl) ?_⟩); clear hK; clear K) | (with_reducible first | refine rgn_nil (by first | trivial | kernel_rfl) ?_ | refine AWP.seq ?_ | refine tX hC hP (by kernel_rfl) ?_ | refine aX hC hM hP (by kernel_rfl) ?_ | refine AWP.skip ?_ | refine AWP.label ?_ | refine AWP.exit ?_ | refine AWP.block ?_ | refine cTa ?_ | refine cFa ?_) | simp only [qS, Nat.reduceEqDiff, ↓reduceIte]))
  refine AWP.loop (fun w : Nat × Nat => [(25, ⟨0, .val (.int .i64 w.1)⟩), (24, ⟨0, .val (.int .i64 (d + 1 : Nat))⟩), (8, ⟨w.2, .own (.sl true 76 (rowsO (tabL w.1 (fun _ => nmW r.length 0))))⟩), (7, ⟨2, .own (.box 79 (.agg [.int .i64 m, .sl true 2 (intL r)]))⟩), (3, ⟨1, .own (.box 31 (.agg [.int .i64 m, .sl false 27 (rowsF ll)]))⟩), (4, ⟨1, .own (.box 36 (.agg [.int .i64 m, .sl false 2 (intL a)]))⟩), (6, ⟨1, .own (.box 36 (.agg [.int .i64 0, .nil]))⟩), (2, ⟨0, .val (.int .i64 N)⟩)]) (fun w => w.1 ≤ d + 1) (fun w => d + 1 - w.1) (0, 1) (Nat.zero_le _) (fun i => rfl) ?_ (fun w hw => ?_)
  · simp [Sub, lk, tabL, rowsO]
  · obtain ⟨i0, v⟩ := w
    simp only at hw ⊢
    by_cases hin : i0 < d + 1
    · (repeat (first | ((with_reducible refine rgn_cons rfl (fun K hK => ?_)); simp only [go_sem, seval, ↓reduceIte, decide_true, decide_false, show (i0 : Int) < ((d + 1 : Nat) : Int) by omega, decide_true, rowsO_length, tabL_length, rowsO_snoc, tabL_snoc, show i0 + 1 ≤ 1099511627776 by omega, show (i0 + 1) * 24 ≤ 140737488355328 by omega, wid ((i0 : Int) + 1) (by omega) (by omega)]; (first | refine hK _ _ _ (by simp only [go_sem, Nat.reduceEqDiff, ↓reduceIte]; rfl) ?_ | refine ⟨_, hn0, hK _ _ _ (by simp only [go_sem, Nat.reduceEqDiff, ↓reduceIte]; rfl) ?_⟩); clear hK; clear K) | (with_reducible first | refine rgn_nil (by first | trivial | kernel_rfl) ?_ | refine AWP.seq ?_ | refine tX hC hP (by kernel_rfl) ?_ | refine aX hC hM hP (by kernel_rfl) ?_ | refine AWP.skip ?_ | refine AWP.label ?_ | refine AWP.exit ?_ | refine AWP.block ?_ | refine cTa ?_ | refine cFa ?_) | simp only [qS, Nat.reduceEqDiff, ↓reduceIte]))
      exact ⟨(i0 + 1, v + 1), by simp only; omega, by simp only; omega, by simp [Sub, lk]⟩
    · have e : i0 = d + 1 := by omega
      rw [e, show tabL (d + 1) (fun _ => nmW r.length 0) = toN m r.length r a (d + 1) (pc ll) 0 from rfl]
      clear hw hin e
      (repeat (first | ((with_reducible refine rgn_cons rfl (fun K hK => ?_)); simp only [go_sem, seval, ↓reduceIte, decide_true, decide_false, show ¬ ((d + 1 : Nat) : Int) < ((d + 1 : Nat) : Int) by omega, decide_false]; (first | refine hK _ _ _ (by simp only [go_sem, Nat.reduceEqDiff, ↓reduceIte]; rfl) ?_ | refine ⟨_, hn1, hK _ _ _ (by simp only [go_sem, Nat.reduceEqDiff, ↓reduceIte]; rfl) ?_⟩); clear hK; clear K) | (with_reducible first | refine rgn_nil (by first | trivial | kernel_rfl) ?_ | refine AWP.seq ?_ | refine tX hC hP (by kernel_rfl) ?_ | refine aX hC hM hP (by kernel_rfl) ?_ | refine AWP.skip ?_ | refine AWP.label ?_ | refine AWP.exit ?_ | refine AWP.block ?_ | refine cTa ?_ | refine cFa ?_) | simp only [qS, Nat.reduceEqDiff, ↓reduceIte]))
      refine AWP.loop (fun w : Nat × Nat × Nat => [(36, ⟨0, .val (.int .i64 w.1)⟩), (35, ⟨0, .val (.int .i64 N)⟩), (8, ⟨w.2.1, .own (.sl true 76 (rowsO (toN m r.length r a (d + 1) (pc ll) w.1)))⟩), (9, ⟨w.2.2, .own (.sl true 2 (intL (rtN m r.length r w.1)))⟩), (7, ⟨2, .own (.box 79 (.agg [.int .i64 m, .sl true 2 (intL r)]))⟩), (3, ⟨1, .own (.box 31 (.agg [.int .i64 m, .sl false 27 (rowsF ll)]))⟩), (4, ⟨1, .own (.box 36 (.agg [.int .i64 m, .sl false 2 (intL a)]))⟩), (6, ⟨1, .own (.box 36 (.agg [.int .i64 0, .nil]))⟩), (2, ⟨0, .val (.int .i64 N)⟩)]) (fun w => w.1 ≤ N) (fun w => N - w.1) (0, v, 1) (Nat.zero_le _) (fun i => rfl) ?_ (fun w hw => ?_)
      · simp [Sub, lk, rtN]
      · obtain ⟨j, v1, v2⟩ := w
        simp only at hw ⊢
        by_cases hj : j < N
        · have hrt := rtN_ok hm r.length r j
          (repeat (first | ((with_reducible refine rgn_cons rfl (fun K hK => ?_)); simp only [go_sem, seval, ↓reduceIte, decide_true, decide_false, show (j : Int) < (N : Int) by omega, decide_true, hal]; (first | refine hK _ _ _ (by simp only [go_sem, Nat.reduceEqDiff, ↓reduceIte]; rfl) ?_ | refine ⟨_, hn1, hK _ _ _ (by simp only [go_sem, Nat.reduceEqDiff, ↓reduceIte]; rfl) ?_⟩); clear hK; clear K) | (with_reducible first | refine rgn_nil (by first | trivial | kernel_rfl) ?_ | refine AWP.seq ?_ | refine tX hC hP (by kernel_rfl) ?_ | refine aX hC hM hP (by kernel_rfl) ?_ | refine AWP.skip ?_ | refine AWP.label ?_ | refine AWP.exit ?_ | refine AWP.block ?_ | refine cTa ?_ | refine cFa ?_) | simp only [qS, Nat.reduceEqDiff, ↓reduceIte]))
          refine AWP.loop (fun w : Nat × Nat × Nat => [(44, ⟨0, .val (.int .i64 w.1)⟩), (43, ⟨0, .val (.int .i64 (d + 1 : Nat))⟩), (42, ⟨0, .val (.sl false 2 (intL a))⟩), (10, ⟨w.2.1, .own (.sl true 76 (rowsO (tabL w.1 (fun i => tmW m r.length r (scN m r.length r j i) (nmW r.length (at' a i))))))⟩), (11, ⟨w.2.2, .own (.sl true 2 (intL (scN m r.length r j w.1)))⟩), (36, ⟨0, .val (.int .i64 j)⟩), (35, ⟨0, .val (.int .i64 N)⟩), (8, ⟨v1, .own (.sl true 76 (rowsO (toN m r.length r a (d + 1) (pc ll) j)))⟩), (9, ⟨v2, .own (.sl true 2 (intL (rtN m r.length r j)))⟩), (7, ⟨2, .own (.box 79 (.agg [.int .i64 m, .sl true 2 (intL r)]))⟩), (3, ⟨1, .own (.box 31 (.agg [.int .i64 m, .sl false 27 (rowsF ll)]))⟩), (4, ⟨1, .own (.box 36 (.agg [.int .i64 m, .sl false 2 (intL a)]))⟩), (6, ⟨1, .own (.box 36 (.agg [.int .i64 0, .nil]))⟩), (2, ⟨0, .val (.int .i64 N)⟩)]) (fun w => w.1 ≤ d + 1) (fun w => d + 1 - w.1) (0, 1, 1) (Nat.zero_le _) (fun i => rfl) ?_ (fun w hw => ?_)
          · simp [Sub, lk, tabL, rowsO, scN]
          · obtain ⟨i, v3, v4⟩ := w
            simp only at hw ⊢
            by_cases hi : i < d + 1
            · have hx := at_bound ha (show 0 < m by omega) i
              have hsc := scN_ok hm r.length r j i
              have hnu := c_impl_rooted_number m (at' a i) r hr hr2
              have hT1 := c_impl_rooted_times m r (scN m r.length r j i) (nmW r.length (at' a i)) (by omega) hm2 hr hr2 hrb hsc (nmW_ok hx.1 hx.2 _)
              have hT2 := c_impl_rooted_times m r (scN m r.length r j i) (rtN m r.length r j) (by omega) hm2 hr hr2 hrb hsc hrt
              (repeat (first | ((with_reducible refine rgn_cons rfl (fun K hK => ?_)); simp only [go_sem, seval, ↓reduceIte, decide_true, decide_false, show (i : Int) < ((d + 1 : Nat) : Int) by omega, decide_true, hal, intL_getD a i (by omega), show a.getD i 0 = at' a i from rfl, Int.toNat_natCast, Int.natCast_nonneg, rowsO_length, tabL_length, rowsO_snoc, tabL_snoc (f := fun i => tmW m r.length r (scN m r.length r j i) (nmW r.length (at' a i))), show i + 1 ≤ 1099511627776 by omega, show (i + 1) * 24 ≤ 140737488355328 by omega, wid ((i : Int) + 1) (by omega) (by omega)]; (first | refine hK _ _ _ (by simp only [go_sem, Nat.reduceEqDiff, ↓reduceIte]; rfl) ?_ | refine ⟨_, hnu, hK _ _ _ (by simp only [go_sem, Nat.reduceEqDiff, ↓reduceIte]; rfl) ?_⟩ | refine ⟨_, hT1, hK _ _ _ (by simp only [go_sem, Nat.reduceEqDiff, ↓reduceIte]; rfl) ?_⟩ | refine ⟨_, hT2, hK _ _ _ (by simp only [go_sem, Nat.reduceEqDiff, ↓reduceIte]; rfl) ?_⟩); clear hK; clear K) | (with_reducible first | refine rgn_nil (by first | trivial | kernel_rfl) ?_ | refine AWP.seq ?_ | refine tX hC hP (by kernel_rfl) ?_ | refine aX hC hM hP (by kernel_rfl) ?_ | refine AWP.skip ?_ | refine AWP.label ?_ | refine AWP.exit ?_ | refine AWP.block ?_ | refine cTa ?_ | refine cFa ?_) | simp only [qS, Nat.reduceEqDiff, ↓reduceIte]))
              exact ⟨(i + 1, v3 + 1, v4 + 1), by simp only; omega, by simp only; omega, by simp [Sub, lk, scN]⟩
            · have e : i = d + 1 := by omega
              rw [e, show tabL (d + 1) (fun i => tmW m r.length r (scN m r.length r j i) (nmW r.length (at' a i))) = cuN m r.length r a (d + 1) j from rfl]
              clear hw hi e
              have hS := c_impl_rooted_sum m r ll (toN m r.length r a (d + 1) (pc ll) j) (cuN m r.length r a (d + 1) j) (d + 1) hm hm2 hr hr2 hrb hl (toN_ok (by omega) _ _ _ _ _ _) (cuN_ok (by omega) _ _ _ _ _) (by omega) (by omega)
              have hTu := c_impl_rooted_turned m r (rtN m r.length r j) (by omega) hm2 hr hr2 hrb hrt
              (repeat (first | ((with_reducible refine rgn_cons rfl (fun K hK => ?_)); simp only [go_sem, seval, ↓reduceIte, decide_true, decide_false, show ¬ ((d + 1 : Nat) : Int) < ((d + 1 : Nat) : Int) by omega, decide_false, wid ((j : Int) + 1) (by omega) (by omega)]; (first | refine hK _ _ _ (by simp only [go_sem, Nat.reduceEqDiff, ↓reduceIte]; rfl) ?_ | refine ⟨_, hS, hK _ _ _ (by simp only [go_sem, Nat.reduceEqDiff, ↓reduceIte]; rfl) ?_⟩ | refine ⟨_, hTu, hK _ _ _ (by simp only [go_sem, Nat.reduceEqDiff, ↓reduceIte]; rfl) ?_⟩); clear hK; clear K) | (with_reducible first | refine rgn_nil (by first | trivial | kernel_rfl) ?_ | refine AWP.seq ?_ | refine tX hC hP (by kernel_rfl) ?_ | refine aX hC hM hP (by kernel_rfl) ?_ | refine AWP.skip ?_ | refine AWP.label ?_ | refine AWP.exit ?_ | refine AWP.block ?_ | refine cTa ?_ | refine cFa ?_) | simp only [qS, Nat.reduceEqDiff, ↓reduceIte]))
              exact ⟨(j + 1, v1 + 1, v2 + 1), by simp only; omega, by simp only; omega, by simp [Sub, lk, toN, rtN]⟩
        · have e : j = N := by omega
          rw [e]
          clear hw hj e
          have hto := toN_ok (show 0 < m by omega) r.length r a (d + 1) (pc ll) N
          obtain ⟨q, hq⟩ : ∃ q, d / N = q := ⟨_, rfl⟩
          have hqd : q * N ≤ d := by rw [← hq]; exact Nat.div_mul_le_self d N
          have hq1 : q ≤ d := by rw [← hq]; exact Nat.div_le_self d N
          have hZ := c_impl_zero m (q : Int) (q + 1) (by omega) (by omega)
          rw [hq]
          (repeat (first | ((with_reducible refine rgn_cons rfl (fun K hK => ?_)); simp only [go_sem, seval, ↓reduceIte, decide_true, decide_false, show ¬ (N : Int) < (N : Int) by omega, decide_false, nat_tdiv, hq, widN q (by omega), show (N : Int) ≠ 0 by omega, tab_length]; (first | refine hK _ _ _ (by simp only [go_sem, Nat.reduceEqDiff, ↓reduceIte]; rfl) ?_ | refine ⟨_, hdg, hK _ _ _ (by simp only [go_sem, Nat.reduceEqDiff, ↓reduceIte]; rfl) ?_⟩ | refine ⟨_, hZ, hK _ _ _ (by simp only [go_sem, Nat.reduceEqDiff, ↓reduceIte]; rfl) ?_⟩); clear hK; clear K) | (with_reducible first | refine rgn_nil (by first | trivial | kernel_rfl) ?_ | refine AWP.seq ?_ | refine tX hC hP (by kernel_rfl) ?_ | refine aX hC hM hP (by kernel_rfl) ?_ | refine AWP.skip ?_ | refine AWP.label ?_ | refine AWP.exit ?_ | refine AWP.block ?_ | refine cTa ?_ | refine cFa ?_) | simp only [qS, Nat.reduceEqDiff, ↓reduceIte]))
          refine AWP.loop (fun i : Nat => [(81, ⟨0, .val (.int .i64 i)⟩), (80, ⟨0, .val (.int .i64 (q + 1 : Nat))⟩), (14, ⟨2, .own (.box 36 (.agg [.int .i64 m, .sl true 2 (intL (tab (q + 1) (fun j => if j < i then at' ((toN m r.length r a (d + 1) (pc ll) N).getD (j * N) []) 0 else 0)))]))⟩), (8, ⟨v1, .own (.sl true 76 (rowsO (toN m r.length r a (d + 1) (pc ll) N)))⟩), (6, ⟨1, .own (.box 36 (.agg [.int .i64 0, .nil]))⟩), (2, ⟨0, .val (.int .i64 N)⟩)]) (fun i => i ≤ q + 1) (fun i => q + 1 - i) 0 (Nat.zero_le _) (fun i => rfl) ?_ (fun i hi => ?_)
          · simp [Sub, lk]
          · by_cases hlt : i < q + 1
            · have hiN : i * N ≤ d := Nat.le_trans (Nat.mul_le_mul_right N (show i ≤ q by omega)) hqd
              have hrow := hto.at (show i * N < d + 1 by omega)
              have hlen : i < (tab (q + 1) (fun j => if j < i then at' ((toN m r.length r a (d + 1) (pc ll) N).getD (j * N) []) 0 else 0)).length := by rw [tab_length]; exact hlt
              have hlen2 : i * N < (toN m r.length r a (d + 1) (pc ll) N).length := by rw [hto.1]; omega
              have hlen3 : 0 < ((toN m r.length r a (d + 1) (pc ll) N).getD (i * N) []).length := by rw [hrow.1]; exact hr
              (repeat (first | ((with_reducible refine rgn_cons rfl (fun K hK => ?_)); simp only [go_sem, seval, ↓reduceIte, decide_true, decide_false, show (i : Int) < ((q + 1 : Nat) : Int) by omega, decide_true, ← Int.natCast_mul, wid ((i * N : Nat) : Int) (by omega) (by omega), rowsO_length, hto.1, show ((i * N : Nat) : Int) < ((d + 1 : Nat) : Int) by omega, Int.toNat_natCast, Int.natCast_nonneg, rowsO_at _ _ hlen2, rowsO_sizeT _ _ (Nat.le_of_lt hlen2), Nat.mul_one, hrow.1, show (0 : Int) < (r.length : Int) by omega, Int.le_refl, Int.toNat_zero, List.take_zero, Nat.zero_mul, intL_get _ 0 hlen3, show ((toN m r.length r a (d + 1) (pc ll) N).getD (i * N) []).getD 0 0 = at' ((toN m r.length r a (d + 1) (pc ll) N).getD (i * N) []) 0 from rfl, tab_length, intL_get _ _ hlen, sizeL_take _ _ (Nat.le_of_lt hlen), intL_modify, upto_set (f := fun j => at' ((toN m r.length r a (d + 1) (pc ll) N).getD (j * N) []) 0), wid ((i : Int) + 1) (by omega) (by omega)]; (refine hK _ _ _ (by simp only [go_sem, Nat.reduceEqDiff, ↓reduceIte]; rfl) ?_); clear hK; clear K) | (with_reducible first | refine rgn_nil (by first | trivial | kernel_rfl) ?_ | refine AWP.seq ?_ | refine tX hC hP (by kernel_rfl) ?_ | refine aX hC hM hP (by kernel_rfl) ?_ | refine AWP.skip ?_ | refine AWP.label ?_ | refine AWP.exit ?_ | refine AWP.block ?_ | refine cTa ?_ | refine cFa ?_) | simp only [qS, Nat.reduceEqDiff, ↓reduceIte]))
              exact ⟨i + 1, by omega, by omega, by simp [Sub, lk]⟩
            · (repeat (first | ((with_reducible refine rgn_cons rfl (fun K hK => ?_)); simp only [go_sem, seval, ↓reduceIte, decide_true, decide_false, show ¬ (i : Int) < ((q + 1 : Nat) : Int) by omega, decide_false]; (refine hK _ _ _ (by simp only [go_sem, Nat.reduceEqDiff, ↓reduceIte]; rfl) ?_); clear hK; clear K) | (with_reducible first | refine rgn_nil (by first | trivial | kernel_rfl) ?_ | refine AWP.seq ?_ | refine tX hC hP (by kernel_rfl) ?_ | refine aX hC hM hP (by kernel_rfl) ?_ | refine AWP.skip ?_ | refine AWP.label ?_ | refine AWP.exit ?_ | refine AWP.block ?_ | refine cTa ?_ | refine cFa ?_) | simp only [qS, Nat.reduceEqDiff, ↓reduceIte]))
              (refine AWP.ret ?_; refine retOk1 (by simp only [go_sem, seval, ↓reduceIte, decide_true, decide_false]; rfl) ?_)
              rw [upto_end (f := fun j => at' ((toN m r.length r a (d + 1) (pc ll) N).getD (j * N) []) 0) (by omega)]
end Go.Proofs.Ytahnnangdepkbaa
