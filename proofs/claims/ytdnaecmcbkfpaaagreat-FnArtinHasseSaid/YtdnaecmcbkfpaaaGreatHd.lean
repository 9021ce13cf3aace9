/-
  The reference's numbers of Artin and Hasse.
-/
import Derived.Test.YtdnaecmcbkfpaaaGreatHc
namespace Go.Proofs.YtdnaecmcbkfpaaaGreat
open Go.RowKit
set_option linter.unusedSimpArgs false
set_option linter.unusedVariables false
set_option linter.unusedSectionVars false
set_option maxRecDepth 20000
-- The reference's numbers of Artin and Hasse.
set_option maxHeartbeats 4000000 in
theorem c_spec_l15Fraction (p n : Nat) (hp : IsP p) (hn : n ≤ 10) : AFn Tryz.prog 38 [.int .i64 p, .int .i64 n] (.tup [.int .i64 ((ahTB p n).1.getD n 0 : Nat), .int .i64 ((ahTB p n).2.getD n 0 : Nat)]) := by
  refine AFn.of' ttOk (by decide) Tryz.func38 Tryz.ntmps38 (by rw [Tryz.results38]) (by rfl) (by rfl) (by simp) (by decide) (by simp only [go_sem, Nat.reduceAdd, ↓reduceIte]; rfl) mixed (fun C hP hM hC => ?_)
  have hpb := hp.b
  (repeat (first | ((with_reducible refine rgn_cons rfl (fun K hK => ?_)); simp only [go_sem, seval, ↓reduceIte, decide_true, decide_false]; (refine hK _ _ _ (by simp only [go_sem, Nat.reduceEqDiff, ↓reduceIte]; rfl) ?_); clear hK; clear K) | (with_reducible first | refine rgn_nil (by first | trivial | kernel_rfl) ?_ | refine AWP.seq ?_ | refine tX hC hP (by kernel_rfl) ?_ | refine aX hC hM hP (by kernel_rfl) ?_ | refine AWP.skip ?_ | refine AWP.label ?_ | refine AWP.exit ?_ | refine AWP.block ?_ | refine cTa ?_ | refine cFa ?_) | simp only [qS, Nat.reduceEqDiff, ↓reduceIte]))
  refine AWP.loop (fun w : Nat × Nat => [(8, ⟨0, .val (.int .i64 (w.1 + 1 : Nat))⟩), (6, ⟨w.2, .own (.sl true 2 (intL (nL (ahTB p w.1).1)))⟩), (7, ⟨w.2, .own (.sl true 2 (intL (nL (ahTB p w.1).2)))⟩), (0, ⟨0, .val (.int .i64 p)⟩), (1, ⟨0, .val (.int .i64 n)⟩)]) (fun w => w.1 ≤ n) (fun w => n - w.1) (0, 1) (Nat.zero_le _) (fun i => rfl) ?_ (fun w hw => ?_)
  · simp [Sub, lk, ahTB, nL, intL]
  · obtain ⟨i, v⟩ := w
    simp only at hw ⊢
    have hl := ahTB_length p i
    by_cases hin : i < n
    · have hI : ((i + 1 : Nat) : Int) ≤ (n : Int) := by omega
      (repeat (first | ((with_reducible refine rgn_cons rfl (fun K hK => ?_)); simp only [go_sem, seval, ↓reduceIte, decide_true, decide_false, hI, decide_true]; (refine hK _ _ _ (by simp only [go_sem, Nat.reduceEqDiff, ↓reduceIte]; rfl) ?_); clear hK; clear K) | (with_reducible first | refine rgn_nil (by first | trivial | kernel_rfl) ?_ | refine AWP.seq ?_ | refine tX hC hP (by kernel_rfl) ?_ | refine aX hC hM hP (by kernel_rfl) ?_ | refine AWP.skip ?_ | refine AWP.label ?_ | refine AWP.exit ?_ | refine AWP.block ?_ | refine cTa ?_ | refine cFa ?_) | simp only [qS, Nat.reduceEqDiff, ↓reduceIte]))
      refine AWP.loop (fun j : Nat => [(11, ⟨0, .val (.int .i64 (p ^ j : Nat))⟩), (9, ⟨0, .val (.int .i64 ((ahIn (ahTB p i).1 (ahTB p i).2 p (i + 1) j).1 : Nat))⟩), (10, ⟨0, .val (.int .i64 ((ahIn (ahTB p i).1 (ahTB p i).2 p (i + 1) j).2 : Nat))⟩), (8, ⟨0, .val (.int .i64 (i + 1 : Nat))⟩), (6, ⟨v, .own (.sl true 2 (intL (nL (ahTB p i).1)))⟩), (7, ⟨v, .own (.sl true 2 (intL (nL (ahTB p i).2)))⟩), (0, ⟨0, .val (.int .i64 p)⟩), (1, ⟨0, .val (.int .i64 n)⟩)]) (fun j => j < 5 ∧ (j = 0 ∨ p ^ (j - 1) ≤ i + 1)) (fun j => 5 - j) 0 ⟨by omega, .inl rfl⟩ (fun i => rfl) ?_ (fun j hj => ?_)
      · simp [Sub, lk, ahIn]
      · have hB := ah_b (p := p) (k := i) (j := j) hp (by omega) hj.1
        have hq := pow_b (p := p) hp hj.1
        by_cases hle : p ^ j ≤ i + 1
        · have hj4 := ahR_lt hp (n := i + 1) (by omega) hj.1 hle
          have hk1 : i + 1 - p ^ j < (nL (ahTB p i).1).length := by rw [nL_length]; omega
          have hk2 : i + 1 - p ^ j < (nL (ahTB p i).2).length := by rw [nL_length]; omega
          have e1 : (ahIn (ahTB p i).1 (ahTB p i).2 p (i + 1) (j + 1)).1 = ((ahIn (ahTB p i).1 (ahTB p i).2 p (i + 1) j).1 * (ahTB p i).2.getD (i + 1 - p ^ j) 0 + (ahTB p i).1.getD (i + 1 - p ^ j) 0 * (ahIn (ahTB p i).1 (ahTB p i).2 p (i + 1) j).2) / Nat.gcd ((ahIn (ahTB p i).1 (ahTB p i).2 p (i + 1) j).1 * (ahTB p i).2.getD (i + 1 - p ^ j) 0 + (ahTB p i).1.getD (i + 1 - p ^ j) 0 * (ahIn (ahTB p i).1 (ahTB p i).2 p (i + 1) j).2) ((ahIn (ahTB p i).1 (ahTB p i).2 p (i + 1) j).2 * (ahTB p i).2.getD (i + 1 - p ^ j) 0) := rfl
          have e2 : (ahIn (ahTB p i).1 (ahTB p i).2 p (i + 1) (j + 1)).2 = (ahIn (ahTB p i).1 (ahTB p i).2 p (i + 1) j).2 * (ahTB p i).2.getD (i + 1 - p ^ j) 0 / Nat.gcd ((ahIn (ahTB p i).1 (ahTB p i).2 p (i + 1) j).1 * (ahTB p i).2.getD (i + 1 - p ^ j) 0 + (ahTB p i).1.getD (i + 1 - p ^ j) 0 * (ahIn (ahTB p i).1 (ahTB p i).2 p (i + 1) j).2) ((ahIn (ahTB p i).1 (ahTB p i).2 p (i + 1) j).2 * (ahTB p i).2.getD (i + 1 - p ^ j) 0) := rfl
          have v1 : (nL (ahTB p i).1).getD (i + 1 - p ^ j) 0 = (((ahTB p i).1.getD (i + 1 - p ^ j) 0 : Nat) : Int) := nL_get _ _
          have v2 : (nL (ahTB p i).2).getD (i + 1 - p ^ j) 0 = (((ahTB p i).2.getD (i + 1 - p ^ j) 0 : Nat) : Int) := nL_get _ _
          generalize (ahIn (ahTB p i).1 (ahTB p i).2 p (i + 1) j).1 = a at hB e1 e2 ⊢
          generalize (ahIn (ahTB p i).1 (ahTB p i).2 p (i + 1) j).2 = b at hB e1 e2 ⊢
          generalize (ahTB p i).1.getD (i + 1 - p ^ j) 0 = z at hB e1 e2 v1
          generalize (ahTB p i).2.getD (i + 1 - p ^ j) 0 = y at hB e1 e2 v2
          have hg : 0 < Nat.gcd (a * y + z * b) (b * y) := Nat.gcd_pos_of_pos_right _ hB.2.2.1
          have hG := c_spec_l01Gcd (a * y + z * b) (b * y) (Nat.le_trans (Nat.add_le_add hB.1 hB.2.1) (by decide)) (Nat.le_trans hB.2.2.2.1 (by decide))
          have u1 : ((p ^ j : Nat) : Int) ≤ ((i + 1 : Nat) : Int) := by omega
          have u2 : IntKind.i64.wrap (((i + 1 : Nat) : Int) - ((p ^ j : Nat) : Int)) = ((i + 1 - p ^ j : Nat) : Int) := by rw [wid _ (by omega) (by omega)]; omega
          have u3 : ((i + 1 - p ^ j : Nat) : Int) < ((i + 1 : Nat) : Int) := by omega
          have u4 := widM (a * y) (Nat.le_trans hB.1 (by decide))
          have u5 := widM (z * b) (Nat.le_trans hB.2.1 (by decide))
          have u6 := widM (a * y + z * b) (Nat.le_trans (Nat.add_le_add hB.1 hB.2.1) (by decide))
          have u7 := widM (b * y) (Nat.le_trans hB.2.2.2.1 (by decide))
          have u8 : ((Nat.gcd (a * y + z * b) (b * y) : Nat) : Int) ≠ 0 := Int.natCast_ne_zero.2 (Nat.ne_of_gt hg)
          have u9 := widM ((a * y + z * b) / Nat.gcd (a * y + z * b) (b * y)) (Nat.le_trans (Nat.div_le_self _ _) (Nat.le_trans (Nat.add_le_add hB.1 hB.2.1) (by decide)))
          have u10 := widM (b * y / Nat.gcd (a * y + z * b) (b * y)) (Nat.le_trans (Nat.div_le_self _ _) (Nat.le_trans hB.2.2.2.1 (by decide)))
          have u11 := widM (p ^ j * p) (Nat.le_trans (Nat.le_of_eq (Nat.pow_succ ..).symm) (Nat.le_trans hq.2.2 (by decide)))
          (repeat (first | ((with_reducible refine rgn_cons rfl (fun K hK => ?_)); simp only [go_sem, seval, ↓reduceIte, decide_true, decide_false, u1, decide_true, u2, intL_get _ _ hk1, intL_get _ _ hk2, sizeL_take _ _ (Nat.le_of_lt hk1), sizeL_take _ _ (Nat.le_of_lt hk2), Nat.mul_one, v1, v2, Int.toNat_natCast, Int.natCast_nonneg, nL_length, hl.1, hl.2, u3, ← Int.natCast_mul, ← Int.natCast_add, u4, u5, u6, u7, nat_tdiv, u8, u9, u10, u11]; (first | refine hK _ _ _ (by simp only [go_sem, Nat.reduceEqDiff, ↓reduceIte]; rfl) ?_ | refine ⟨_, hG, hK _ _ _ (by simp only [go_sem, Nat.reduceEqDiff, ↓reduceIte]; rfl) ?_⟩); clear hK; clear K) | (with_reducible first | refine rgn_nil (by first | trivial | kernel_rfl) ?_ | refine AWP.seq ?_ | refine tX hC hP (by kernel_rfl) ?_ | refine aX hC hM hP (by kernel_rfl) ?_ | refine AWP.skip ?_ | refine AWP.label ?_ | refine AWP.exit ?_ | refine AWP.block ?_ | refine cTa ?_ | refine cFa ?_) | simp only [qS, Nat.reduceEqDiff, ↓reduceIte]))
          exact ⟨j + 1, ⟨by omega, .inr (by simpa using hle)⟩, by omega, by simp only [e1, e2, Nat.pow_succ]; simp [Sub, lk]⟩
        · have hjr := ahR_eq hp (n := i + 1) (by omega) hj.1 (by omega) hj.2
          have e3 : (ahTB p (i + 1)).1 = (ahTB p i).1 ++ [(ahIn (ahTB p i).1 (ahTB p i).2 p (i + 1) j).1 / Nat.gcd (ahIn (ahTB p i).1 (ahTB p i).2 p (i + 1) j).1 ((ahIn (ahTB p i).1 (ahTB p i).2 p (i + 1) j).2 * (i + 1))] := by rw [hjr]; rfl
          have e4 : (ahTB p (i + 1)).2 = (ahTB p i).2 ++ [(ahIn (ahTB p i).1 (ahTB p i).2 p (i + 1) j).2 * (i + 1) / Nat.gcd (ahIn (ahTB p i).1 (ahTB p i).2 p (i + 1) j).1 ((ahIn (ahTB p i).1 (ahTB p i).2 p (i + 1) j).2 * (i + 1))] := by rw [hjr]; rfl
          have hB := hB.2.2.2.2
          generalize (ahIn (ahTB p i).1 (ahTB p i).2 p (i + 1) j).1 = a at hB e3 e4 ⊢
          generalize (ahIn (ahTB p i).1 (ahTB p i).2 p (i + 1) j).2 = b at hB e3 e4 ⊢
          have hbn : b * (i + 1) ≤ 10000000 * 11 := Nat.mul_le_mul hB.2.1 (by omega)
          have hg : 0 < Nat.gcd a (b * (i + 1)) := Nat.gcd_pos_of_pos_right _ (Nat.mul_pos hB.1 (by omega))
          have hG := c_spec_l01Gcd a (b * (i + 1)) (by omega) (by omega)
          have u1 : ¬ ((p ^ j : Nat) : Int) ≤ ((i + 1 : Nat) : Int) := by omega
          have u4 := widM (b * (i + 1)) (by omega)
          have u8 : ((Nat.gcd a (b * (i + 1)) : Nat) : Int) ≠ 0 := Int.natCast_ne_zero.2 (Nat.ne_of_gt hg)
          have u9 := widM (a / Nat.gcd a (b * (i + 1))) (Nat.le_trans (Nat.div_le_self _ _) (by omega))
          have u10 := widM (b * (i + 1) / Nat.gcd a (b * (i + 1))) (Nat.le_trans (Nat.div_le_self _ _) (by omega))
          have u11 : IntKind.i64.wrap (((i + 1 : Nat) : Int) + 1) = ((i + 1 + 1 : Nat) : Int) := by rw [wid _ (by omega) (by omega)]; omega
          (repeat (first | ((with_reducible refine rgn_cons rfl (fun K hK => ?_)); simp only [go_sem, seval, ↓reduceIte, decide_true, decide_false, u1, decide_false, ← Int.natCast_mul, u4, nat_tdiv, u8, u9, u10, u11, nL_length, hl.1, hl.2, show i + 1 + 1 ≤ 1099511627776 by omega, show (i + 1 + 1) * 8 ≤ 140737488355328 by omega, intL_snoc, nL_snoc]; (first | refine hK _ _ _ (by simp only [go_sem, Nat.reduceEqDiff, ↓reduceIte]; rfl) ?_ | refine ⟨_, hG, hK _ _ _ (by simp only [go_sem, Nat.reduceEqDiff, ↓reduceIte]; rfl) ?_⟩); clear hK; clear K) | (with_reducible first | refine rgn_nil (by first | trivial | kernel_rfl) ?_ | refine AWP.seq ?_ | refine tX hC hP (by kernel_rfl) ?_ | refine aX hC hM hP (by kernel_rfl) ?_ | refine AWP.skip ?_ | refine AWP.label ?_ | refine AWP.exit ?_ | refine AWP.block ?_ | refine cTa ?_ | refine cFa ?_) | simp only [qS, Nat.reduceEqDiff, ↓reduceIte]))
          exact ⟨(i + 1, v + 1), by simp only; omega, by simp only; omega, by simp only [e3, e4]; simp [Sub, lk]⟩
    · have hie : i = n := by omega
      subst hie
      have hk1 : i < (nL (ahTB p i).1).length := by rw [nL_length]; omega
      have hk2 : i < (nL (ahTB p i).2).length := by rw [nL_length]; omega
      (repeat (first | ((with_reducible refine rgn_cons rfl (fun K hK => ?_)); simp only [go_sem, seval, ↓reduceIte, decide_true, decide_false, show ¬ ((i + 1 : Nat) : Int) ≤ (i : Int) by omega, decide_false, intL_get _ _ hk1, intL_get _ _ hk2, sizeL_take _ _ (Nat.le_of_lt hk1), sizeL_take _ _ (Nat.le_of_lt hk2), Nat.mul_one, nL_get, Int.toNat_natCast, Int.natCast_nonneg, nL_length, hl.1, hl.2, show (i : Int) < ((i + 1 : Nat) : Int) by omega]; (refine hK _ _ _ (by simp only [go_sem, Nat.reduceEqDiff, ↓reduceIte]; rfl) ?_); clear hK; clear K) | (with_reducible first | refine rgn_nil (by first | trivial | kernel_rfl) ?_ | refine AWP.seq ?_ | refine tX hC hP (by kernel_rfl) ?_ | refine aX hC hM hP (by kernel_rfl) ?_ | refine AWP.skip ?_ | refine AWP.label ?_ | refine AWP.exit ?_ | refine AWP.block ?_ | refine cTa ?_ | refine cFa ?_) | simp only [qS, Nat.reduceEqDiff, ↓reduceIte]))
      (refine AWP.ret ?_; refine retOk2 (by simp only [go_sem, seval, ↓reduceIte, decide_true, decide_false]; rfl) (by simp only [go_sem, seval, ↓reduceIte, decide_true, decide_false]; rfl) (by simp) ?_)
      rfl
end Go.Proofs.YtdnaecmcbkfpaaaGreat
