/-
  Inverses of series.
-/
import Derived.Test.YtdnaecmcbkfpaaaGreatLd
import Derived.Test.YtdnaecmcbkfpaaaGreatLd
import Derived.Test.YtdnaecmcbkfpaaaGreatLc
import Derived.Test.YtdnaecmcbkfpaaaGreatPa
namespace Go.Proofs.YtdnaecmcbkfpaaaGreat
open Go.RowKit
set_option linter.unusedSimpArgs false
set_option linter.unusedVariables false
set_option linter.unusedSectionVars false
set_option maxRecDepth 20000
-- Inverses of series.
set_option maxHeartbeats 1000000 in
theorem c_spec_l02Inverse (m : Int) (la : List Int) (d : Nat) (hm : 1 < m) (hm2 : m ≤ 10000) (ha : ∀ x ∈ la, 0 ≤ x ∧ x < m) (h0 : 0 < la.length) (hla : la.length ≤ 1000000) (hd : d ≤ 999999) : AFn Tryz.prog 94 [.int .i64 m, .sl false 2 (intL la), .int .i64 d] (.sl true 2 (intL (invS m la d))) := by
  refine AFn.of' ttOk (by decide) Tryz.func94 Tryz.ntmps94 (by rw [Tryz.results94]) (by rfl) (by rfl) (by simp) (by decide) (by simp only [go_sem, Nat.reduceAdd, ↓reduceIte]; rfl) mixed (fun C hP hM hC => ?_)
  have hu := invL_bound m (at' la 0) (by omega)
  (repeat (first | ((with_reducible refine rgn_cons rfl (fun K hK => ?_)); simp only [go_sem, seval, ↓reduceIte, decide_true, decide_false, intL_getD la 0 h0, show la.getD 0 0 = at' la 0 from rfl, Int.toNat_zero, Int.le_refl, show (0 : Int) < (la.length : Int) by omega]; (first | refine hK _ _ _ (by simp only [go_sem, Nat.reduceEqDiff, ↓reduceIte]; rfl) ?_ | refine ⟨_, c_spec_l01Inv m (at' la 0) (by omega) (by omega), hK _ _ _ (by simp only [go_sem, Nat.reduceEqDiff, ↓reduceIte]; rfl) ?_⟩); clear hK; clear K) | (with_reducible first | refine rgn_nil (by first | trivial | kernel_rfl) ?_ | refine AWP.seq ?_ | refine tX hC hP (by kernel_rfl) ?_ | refine aX hC hM hP (by kernel_rfl) ?_ | refine AWP.skip ?_ | refine AWP.label ?_ | refine AWP.exit ?_ | refine AWP.block ?_ | refine cTa ?_ | refine cFa ?_) | simp only [qS, Nat.reduceEqDiff, ↓reduceIte]))
  refine AWP.loop (fun w : Nat × Nat => [(9, ⟨0, .val (.int .i64 w.1)⟩), (8, ⟨w.2, .own (.sl true 2 (intL (iL m (invL m (at' la 0)) (at' la) w.1)))⟩), (7, ⟨0, .val (.int .i64 (invL m (at' la 0)))⟩), (0, ⟨0, .val (.int .i64 m)⟩), (1, ⟨0, .val (.sl false 2 (intL la))⟩), (2, ⟨0, .val (.int .i64 d)⟩)]) (fun w => 0 < w.1 ∧ w.1 ≤ d + 1) (fun w => d + 1 - w.1) (1, 1) ⟨by omega, by omega⟩ (fun i => rfl) ?_ (fun w hw => ?_)
  · simp [Sub, lk, iL_one, intL]
  · obtain ⟨n, v8⟩ := w
    simp only at hw ⊢
    by_cases hn : n ≤ d
    · have hol := iL_length m (invL m (at' la 0)) (at' la) n
      have hon := iL_num (u := invL m (at' la 0)) (at' la) n (show 0 < m by omega) hu
      generalize ho : iL m (invL m (at' la 0)) (at' la) n = o at hol hon
      (repeat (first | ((with_reducible refine rgn_cons rfl (fun K hK => ?_)); simp only [go_sem, seval, ↓reduceIte, decide_true, decide_false, show (n : Int) ≤ (d : Int) by omega]; (refine hK _ _ _ (by simp only [go_sem, Nat.reduceEqDiff, ↓reduceIte]; rfl) ?_); clear hK; clear K) | (with_reducible first | refine rgn_nil (by first | trivial | kernel_rfl) ?_ | refine AWP.seq ?_ | refine tX hC hP (by kernel_rfl) ?_ | refine aX hC hM hP (by kernel_rfl) ?_ | refine AWP.skip ?_ | refine AWP.label ?_ | refine AWP.exit ?_ | refine AWP.block ?_ | refine cTa ?_ | refine cFa ?_) | simp only [qS, Nat.reduceEqDiff, ↓reduceIte]))
      refine AWP.loop (fun c : Nat => [(11, ⟨0, .val (.int .i64 (c + 1 : Nat))⟩), (10, ⟨0, .val (.int .i64 (sm c (fun i => at' la (i + 1) * at' o (n - 1 - i)) % m))⟩), (9, ⟨0, .val (.int .i64 n)⟩), (8, ⟨v8, .own (.sl true 2 (intL o))⟩), (7, ⟨0, .val (.int .i64 (invL m (at' la 0)))⟩), (0, ⟨0, .val (.int .i64 m)⟩), (1, ⟨0, .val (.sl false 2 (intL la))⟩), (2, ⟨0, .val (.int .i64 d)⟩)]) (fun c => c ≤ n) (fun c => n - c) 0 (by omega) (fun i => rfl) ?_ (fun c hc => ?_)
      · simp [Sub, lk, sm]
      · have hs := emod_b (sm c (fun i => at' la (i + 1) * at' o (n - 1 - i))) m (by omega)
        by_cases hc2 : c + 1 ≤ n ∧ c + 1 < la.length
        · have hx := at_bound ha (by omega) (c + 1)
          have hy := at_bound hon (by omega) (n - 1 - c)
          have hxy := mul_bound4 hx.1 hx.2 hy.1 hy.2 hm2
          have e1 : (sm c (fun i => at' la (i + 1) * at' o (n - 1 - i)) % m + at' la (c + 1) * at' o (n - 1 - c)) % m = sm (c + 1) (fun i => at' la (i + 1) * at' o (n - 1 - i)) % m := by rw [Int.emod_add_emod]; rfl
          (repeat (first | ((with_reducible refine rgn_cons rfl (fun K hK => ?_)); simp only [go_sem, seval, ↓reduceIte, decide_true, decide_false, show (((c + 1 : Nat) : Int) ≤ (n : Int)) by omega, show (((c + 1 : Nat) : Int) < (la.length : Int)) by omega, intL_getD la (c + 1) hc2.2, show la.getD (c + 1) 0 = at' la (c + 1) from rfl, Int.toNat_natCast, Int.natCast_nonneg, wid ((n : Int) - ((c + 1 : Nat) : Int)) (by omega) (by omega), show (0 : Int) ≤ (n : Int) - ((c + 1 : Nat) : Int) by omega, show (n : Int) - ((c + 1 : Nat) : Int) < (o.length : Int) by omega, show ((n : Int) - ((c + 1 : Nat) : Int)).toNat = n - 1 - c by omega, intL_get o (n - 1 - c) (by omega), Nat.mul_one, sizeL_take o (n - 1 - c) (by omega), show o.getD (n - 1 - c) 0 = at' o (n - 1 - c) from rfl, wid (at' la (c + 1) * at' o (n - 1 - c)) (by omega) (by omega), wid (sm c (fun i => at' la (i + 1) * at' o (n - 1 - i)) % m + at' la (c + 1) * at' o (n - 1 - c)) (by omega) (by omega), tm (sm c (fun i => at' la (i + 1) * at' o (n - 1 - i)) % m + at' la (c + 1) * at' o (n - 1 - c)) m (by omega), e1, show m ≠ 0 by omega, wid (((c + 1 : Nat) : Int) + 1) (by omega) (by omega)]; (refine hK _ _ _ (by simp only [go_sem, Nat.reduceEqDiff, ↓reduceIte]; rfl) ?_); clear hK; clear K) | (with_reducible first | refine rgn_nil (by first | trivial | kernel_rfl) ?_ | refine AWP.seq ?_ | refine tX hC hP (by kernel_rfl) ?_ | refine aX hC hM hP (by kernel_rfl) ?_ | refine AWP.skip ?_ | refine AWP.label ?_ | refine AWP.exit ?_ | refine AWP.block ?_ | refine cTa ?_ | refine cFa ?_) | simp only [qS, Nat.reduceEqDiff, ↓reduceIte]))
          exact ⟨c + 1, by omega, by omega, by simp [Sub, lk]⟩
        · have hE : sm c (fun i => at' la (i + 1) * at' o (n - 1 - i)) = sm n (fun i => at' la (i + 1) * at' o (n - 1 - i)) := by
            refine (sm_tail hc fun i h1 h2 => ?_).symm
            rw [at_out (l := la) (i := i + 1) (by omega), Int.zero_mul]
          have e2 : (m - sm c (fun i => at' la (i + 1) * at' o (n - 1 - i)) % m) * invL m (at' la 0) % m = iC m (invL m (at' la 0)) (at' la) n o := iC_eq2 hw.1 (by rw [hE])
          have hb1 : 0 ≤ (m - sm c (fun i => at' la (i + 1) * at' o (n - 1 - i)) % m) * invL m (at' la 0) := Int.mul_nonneg (by omega) hu.1
          have hb2 : (m - sm c (fun i => at' la (i + 1) * at' o (n - 1 - i)) % m) * invL m (at' la 0) ≤ 10000 * 10000 := Int.mul_le_mul (by omega) (by omega) hu.1 (by omega)
          have e3 : o ++ [iC m (invL m (at' la 0)) (at' la) n o] = iL m (invL m (at' la 0)) (at' la) (n + 1) := by rw [← ho]; rfl
          by_cases h1 : c + 1 ≤ n
          · (repeat (first | ((with_reducible refine rgn_cons rfl (fun K hK => ?_)); simp only [go_sem, seval, ↓reduceIte, decide_true, decide_false, show (((c + 1 : Nat) : Int) ≤ (n : Int)) by omega, show ¬ (((c + 1 : Nat) : Int) < (la.length : Int)) by omega, decide_false, wid (m - sm c (fun i => at' la (i + 1) * at' o (n - 1 - i)) % m) (by omega) (by omega), wid ((m - sm c (fun i => at' la (i + 1) * at' o (n - 1 - i)) % m) * invL m (at' la 0)) (by omega) (by omega), tm _ m hb1, e2, show m ≠ 0 by omega, hol, intL_snoc, e3, show n + 1 ≤ 1099511627776 by omega, show (n + 1) * 8 ≤ 140737488355328 by omega, wid ((n : Int) + 1) (by omega) (by omega)]; (refine hK _ _ _ (by simp only [go_sem, Nat.reduceEqDiff, ↓reduceIte]; rfl) ?_); clear hK; clear K) | (with_reducible first | refine rgn_nil (by first | trivial | kernel_rfl) ?_ | refine AWP.seq ?_ | refine tX hC hP (by kernel_rfl) ?_ | refine aX hC hM hP (by kernel_rfl) ?_ | refine AWP.skip ?_ | refine AWP.label ?_ | refine AWP.exit ?_ | refine AWP.block ?_ | refine cTa ?_ | refine cFa ?_) | simp only [qS, Nat.reduceEqDiff, ↓reduceIte]))
            exact ⟨(n + 1, v8 + 1), by simp only; omega, by simp only; omega, by simp [Sub, lk]⟩
          · (repeat (first | ((with_reducible refine rgn_cons rfl (fun K hK => ?_)); simp only [go_sem, seval, ↓reduceIte, decide_true, decide_false, show ¬ (((c + 1 : Nat) : Int) ≤ (n : Int)) by omega, decide_false, wid (m - sm c (fun i => at' la (i + 1) * at' o (n - 1 - i)) % m) (by omega) (by omega), wid ((m - sm c (fun i => at' la (i + 1) * at' o (n - 1 - i)) % m) * invL m (at' la 0)) (by omega) (by omega), tm _ m hb1, e2, show m ≠ 0 by omega, hol, intL_snoc, e3, show n + 1 ≤ 1099511627776 by omega, show (n + 1) * 8 ≤ 140737488355328 by omega, wid ((n : Int) + 1) (by omega) (by omega)]; (refine hK _ _ _ (by simp only [go_sem, Nat.reduceEqDiff, ↓reduceIte]; rfl) ?_); clear hK; clear K) | (with_reducible first | refine rgn_nil (by first | trivial | kernel_rfl) ?_ | refine AWP.seq ?_ | refine tX hC hP (by kernel_rfl) ?_ | refine aX hC hM hP (by kernel_rfl) ?_ | refine AWP.skip ?_ | refine AWP.label ?_ | refine AWP.exit ?_ | refine AWP.block ?_ | refine cTa ?_ | refine cFa ?_) | simp only [qS, Nat.reduceEqDiff, ↓reduceIte]))
            exact ⟨(n + 1, v8 + 1), by simp only; omega, by simp only; omega, by simp [Sub, lk]⟩
    · (repeat (first | ((with_reducible refine rgn_cons rfl (fun K hK => ?_)); simp only [go_sem, seval, ↓reduceIte, decide_true, decide_false, show ¬ (n : Int) ≤ (d : Int) by omega, decide_false]; (refine hK _ _ _ (by simp only [go_sem, Nat.reduceEqDiff, ↓reduceIte]; rfl) ?_); clear hK; clear K) | (with_reducible first | refine rgn_nil (by first | trivial | kernel_rfl) ?_ | refine AWP.seq ?_ | refine tX hC hP (by kernel_rfl) ?_ | refine aX hC hM hP (by kernel_rfl) ?_ | refine AWP.skip ?_ | refine AWP.label ?_ | refine AWP.exit ?_ | refine AWP.block ?_ | refine cTa ?_ | refine cFa ?_) | simp only [qS, Nat.reduceEqDiff, ↓reduceIte]))
      (refine AWP.ret ?_; refine retOk1 (by simp only [go_sem, seval, ↓reduceIte, decide_true, decide_false]; rfl) ?_)
      rw [show n = d + 1 by omega]; rfl
end Go.Proofs.YtdnaecmcbkfpaaaGreat
