/-
  The opposite and the multiples of a curve, in the reference.
-/
import Derived.Test.YtfnfdjomkohfjaaQd
namespace Go.Proofs.Ytfnfdjomkohfjaa
open Go.RowKit
set_option linter.unusedSimpArgs false
set_option linter.unusedVariables false
set_option linter.unusedSectionVars false
set_option maxRecDepth 20000
-- The opposite and the multiples of a curve, in the reference.
theorem neg_emod1 (x m : Int) : (m - x) % m = -x % m := by
  have h := Int.add_mul_emod_self_left (-x) m 1
  rw [Int.mul_one] at h
  rw [← h]; congr 1; omega
set_option maxHeartbeats 2000000 in
theorem c_spec_l04Inverse (m : Int) (ll : List (List Int)) (d : Nat) (hm : 1 < m) (hm2 : m ≤ 10000) (hl : Pl m (d + 1) ll) (hd1 : 1 ≤ d) (hd : d ≤ 999) : AFn Try.prog 39 [.agg [.int .i64 m, .sl false 25 (rowsF ll)]] (.sl true 2 (intL (opiS m (pc ll) d d))) := by
  refine AFn.of' ttOk (by decide) Try.func39 Try.ntmps39 (by rw [Try.results39]) (by rfl) (by rfl) (by simp) (by decide) (by simp only [go_sem, Nat.reduceAdd, ↓reduceIte]; rfl) mixed (fun C hP hM hC => ?_)
  have hV := varL_facts hm d
  have h1 : 1 < (tab (d + 1) (fun _ => 0)).length := by rw [tab_length]; omega
  have hm0 : m ≠ 0 := by omega
  (repeat (first | ((with_reducible refine rgn_cons rfl (fun K hK => ?_)); simp only [go_sem, seval, ↓reduceIte, decide_true, decide_false, rowsF_length, hl.len, show IntKind.i64.wrap (((d + 1 : Nat) : Int) - 1) = (d : Int) by rw [wid _ (by omega) (by omega)]; omega, wid ((d : Int) + 1) (by omega) (by omega), show (0 : Int) ≤ (d : Int) + 1 by omega, show ((d : Int) + 1).toNat = d + 1 by omega, show (d : Int) + 1 ≤ 1099511627776 by omega, intL_replicate, tab_zero, tab_length, show (0 : Int) ≤ 1 by decide, show (1 : Int).toNat = 1 from rfl, show (1 : Int) < ((d + 1 : Nat) : Int) by omega, intL_get _ _ h1, sizeL_take _ _ (Nat.le_of_lt h1), Nat.mul_one, intL_modify, varL_set hd1]; (refine hK _ _ _ (by simp only [go_sem, Nat.reduceEqDiff, ↓reduceIte]; rfl) ?_); clear hK; clear K) | (with_reducible first | refine rgn_nil (by first | trivial | kernel_rfl) ?_ | refine AWP.seq ?_ | refine tX hC hP (by kernel_rfl) ?_ | refine aX hC hM hP (by kernel_rfl) ?_ | refine AWP.skip ?_ | refine AWP.label ?_ | refine AWP.exit ?_ | refine AWP.block ?_ | refine cTa ?_ | refine cFa ?_) | simp only [qS, Nat.reduceEqDiff, ↓reduceIte]))
  refine AWP.loop (fun w : Nat × Nat => [(6, ⟨0, .val (.int .i64 ((w.1 : Int) + 1))⟩), (4, ⟨w.2, .own (.sl true 2 (intL (opiS m (pc ll) d w.1)))⟩), (5, ⟨1, .own (.sl true 2 (intL (varL d)))⟩), (3, ⟨0, .val (.int .i64 d)⟩), (1, ⟨1, .own (.box 29 (.agg [.int .i64 m, .sl false 25 (rowsF ll)]))⟩)]) (fun w => w.1 ≤ d) (fun w => d - w.1) (0, 1) (Nat.zero_le _) (fun i => rfl) ?_ (fun w hw => ?_)
  · simp [Sub, lk, opiS]
  · obtain ⟨i, v⟩ := w
    simp only at hw ⊢
    have hS := opiS_facts (m := m) (by omega) (pc ll) d i
    by_cases hi : i < d
    · have hP1 := putL_facts (m := m) (by omega) (pc ll) (varL d) (opiS m (pc ll) d i) d
      have hb := at_bound hP1.2 (by omega) (i + 1)
      have k1 : i + 1 < (putL m (pc ll) (varL d) (opiS m (pc ll) d i) d).length := by omega
      have k2 : i + 1 < (opiS m (pc ll) d i).length := by omega
      have hC1 := c_spec_l03Put m ll (varL d) (opiS m (pc ll) d i) d hm hm2 hl hV.2 hV.1 hS.2 hS.1 hd
      (repeat (first | ((with_reducible refine rgn_cons rfl (fun K hK => ?_)); simp only [go_sem, seval, ↓reduceIte, decide_true, decide_false, show (i : Int) + 1 ≤ (d : Int) by omega, decide_true, show (0 : Int) ≤ (i : Int) + 1 by omega, show ((i : Int) + 1).toNat = i + 1 by omega, hP1.1, hS.1, show (i : Int) + 1 < ((d + 1 : Nat) : Int) by omega, intL_get _ _ k1, intL_get _ _ k2, sizeL_take _ _ (Nat.le_of_lt k1), sizeL_take _ _ (Nat.le_of_lt k2), Nat.mul_one, show (putL m (pc ll) (varL d) (opiS m (pc ll) d i) d).getD (i + 1) 0 = at' (putL m (pc ll) (varL d) (opiS m (pc ll) d i) d) (i + 1) from rfl, wid (m - at' (putL m (pc ll) (varL d) (opiS m (pc ll) d i) d) (i + 1)) (by omega) (by omega), tm (m - at' (putL m (pc ll) (varL d) (opiS m (pc ll) d i) d) (i + 1)) m (by omega), neg_emod1, hm0, intL_modify, wid ((i : Int) + 1 + 1) (by omega) (by omega)]; (first | refine hK _ _ _ (by simp only [go_sem, Nat.reduceEqDiff, ↓reduceIte]; rfl) ?_ | refine ⟨_, hC1, hK _ _ _ (by simp only [go_sem, Nat.reduceEqDiff, ↓reduceIte]; rfl) ?_⟩); clear hK; clear K) | (with_reducible first | refine rgn_nil (by first | trivial | kernel_rfl) ?_ | refine AWP.seq ?_ | refine tX hC hP (by kernel_rfl) ?_ | refine aX hC hM hP (by kernel_rfl) ?_ | refine AWP.skip ?_ | refine AWP.label ?_ | refine AWP.exit ?_ | refine AWP.block ?_ | refine cTa ?_ | refine cFa ?_) | simp only [qS, Nat.reduceEqDiff, ↓reduceIte]))
      exact ⟨(i + 1, v), by simp only; omega, by simp only; omega, by simp [Sub, lk, opiS]⟩
    · (repeat (first | ((with_reducible refine rgn_cons rfl (fun K hK => ?_)); simp only [go_sem, seval, ↓reduceIte, decide_true, decide_false, show ¬ (i : Int) + 1 ≤ (d : Int) by omega, decide_false]; (refine hK _ _ _ (by simp only [go_sem, Nat.reduceEqDiff, ↓reduceIte]; rfl) ?_); clear hK; clear K) | (with_reducible first | refine rgn_nil (by first | trivial | kernel_rfl) ?_ | refine AWP.seq ?_ | refine tX hC hP (by kernel_rfl) ?_ | refine aX hC hM hP (by kernel_rfl) ?_ | refine AWP.skip ?_ | refine AWP.label ?_ | refine AWP.exit ?_ | refine AWP.block ?_ | refine cTa ?_ | refine cFa ?_) | simp only [qS, Nat.reduceEqDiff, ↓reduceIte]))
      (refine AWP.ret ?_; refine retOk1 (by simp only [go_sem, seval, ↓reduceIte, decide_true, decide_false]; rfl) ?_)
      rw [show i = d by omega]
set_option maxHeartbeats 1000000 in
theorem c_spec_l04Opposite (m : Int) (ll : List (List Int)) (la : List Int) (d : Nat) (hm : 1 < m) (hm2 : m ≤ 10000) (hl : Pl m (d + 1) ll) (hd1 : 1 ≤ d) (hd : d ≤ 999) (ha : ∀ x ∈ la, 0 ≤ x ∧ x < m) (hla : la.length = d + 1) : AFn Try.prog 135 [.agg [.int .i64 m, .sl false 25 (rowsF ll)], .sl false 2 (intL la)] (.sl true 2 (intL (opL m (pc ll) d la))) := by
  refine AFn.of' ttOk (by decide) Try.func135 Try.ntmps135 (by rw [Try.results135]) (by rfl) (by rfl) (by simp) (by decide) (by simp only [go_sem, Nat.reduceAdd, ↓reduceIte]; rfl) mixed (fun C hP hM hC => ?_)
  have hO := opiS_facts (m := m) (by omega) (pc ll) d d
  (repeat (first | ((with_reducible refine rgn_cons rfl (fun K hK => ?_)); simp only [go_sem, seval, ↓reduceIte, decide_true, decide_false, hla, show IntKind.i64.wrap (((d + 1 : Nat) : Int) - 1) = (d : Int) by rw [wid _ (by omega) (by omega)]; omega]; (first | refine hK _ _ _ (by simp only [go_sem, Nat.reduceEqDiff, ↓reduceIte]; rfl) ?_ | refine ⟨_, c_spec_l04Inverse m ll d hm hm2 hl hd1 hd, hK _ _ _ (by simp only [go_sem, Nat.reduceEqDiff, ↓reduceIte]; rfl) ?_⟩ | refine ⟨_, c_spec_l02Compose m (opiS m (pc ll) d d) la d hm hm2 hO.2 ha hO.1 hla (by omega), hK _ _ _ (by simp only [go_sem, Nat.reduceEqDiff, ↓reduceIte]; rfl) ?_⟩); clear hK; clear K) | (with_reducible first | refine rgn_nil (by first | trivial | kernel_rfl) ?_ | refine AWP.seq ?_ | refine tX hC hP (by kernel_rfl) ?_ | refine aX hC hM hP (by kernel_rfl) ?_ | refine AWP.skip ?_ | refine AWP.label ?_ | refine AWP.exit ?_ | refine AWP.block ?_ | refine cTa ?_ | refine cFa ?_) | simp only [qS, Nat.reduceEqDiff, ↓reduceIte]))
  (refine AWP.ret ?_; refine retOk1 (by simp only [go_sem, seval, ↓reduceIte, decide_true, decide_false]; rfl) ?_)
  rfl
set_option maxHeartbeats 4000000 in
theorem c_spec_l04Multiple_pos (m : Int) (ll : List (List Int)) (la : List Int) (k d : Nat) (hm : 1 < m) (hm2 : m ≤ 10000) (hl : Pl m (d + 1) ll) (hd1 : 1 ≤ d) (hd : d ≤ 999) (ha : ∀ x ∈ la, 0 ≤ x ∧ x < m) (hla : la.length = d + 1) (hk : k ≤ 1000000000000) : AFn Try.prog 114 [.agg [.int .i64 m, .sl false 25 (rowsF ll)], .int .i64 k, .sl false 2 (intL la)] (.sl true 2 (intL (muL m (pc ll) d (zrL d) la k))) := by
  refine AFn.of' ttOk (by decide) Try.func114 Try.ntmps114 (by rw [Try.results114]) (by rfl) (by rfl) (by simp) (by decide) (by simp only [go_sem, Nat.reduceAdd, ↓reduceIte]; rfl) mixed (fun C hP hM hC => ?_)
  have hz := zrL_facts (m := m) (by omega) d
  (repeat (first | ((with_reducible refine rgn_cons rfl (fun K hK => ?_)); simp only [go_sem, seval, ↓reduceIte, decide_true, decide_false, show ¬ ((k : Int) < 0) by omega, decide_false, hla, Int.natCast_nonneg, Int.toNat_natCast, show ((d + 1 : Nat) : Int) ≤ 1099511627776 by omega, intL_replicate, tab_zero]; (refine hK _ _ _ (by simp only [go_sem, Nat.reduceEqDiff, ↓reduceIte]; rfl) ?_); clear hK; clear K) | (with_reducible first | refine rgn_nil (by first | trivial | kernel_rfl) ?_ | refine AWP.seq ?_ | refine tX hC hP (by kernel_rfl) ?_ | refine aX hC hM hP (by kernel_rfl) ?_ | refine AWP.skip ?_ | refine AWP.label ?_ | refine AWP.exit ?_ | refine AWP.block ?_ | refine cTa ?_ | refine cFa ?_) | simp only [qS, Nat.reduceEqDiff, ↓reduceIte]))
  refine AWP.loop (fun w : Nat × List Int × List Int × Nat × Option Nat => match w with
    | (j, o, b, v5, none) => [(1, ⟨0, .val (.int .i64 j)⟩), (7, ⟨v5, .own (.sl true 2 (intL o))⟩), (2, ⟨0, .val (.sl false 2 (intL b))⟩), (3, ⟨1, .own (.box 29 (.agg [.int .i64 m, .sl false 25 (rowsF ll)]))⟩)]
    | (j, o, b, v5, some v2) => [(1, ⟨0, .val (.int .i64 j)⟩), (7, ⟨v5, .own (.sl true 2 (intL o))⟩), (2, ⟨v2, .own (.sl true 2 (intL b))⟩), (3, ⟨1, .own (.box 29 (.agg [.int .i64 m, .sl false 25 (rowsF ll)]))⟩)]) (fun w => w.1 ≤ k ∧ (w.2.1.length = d + 1 ∧ ∀ x ∈ w.2.1, 0 ≤ x ∧ x < m) ∧ (w.2.2.1.length = d + 1 ∧ ∀ x ∈ w.2.2.1, 0 ≤ x ∧ x < m) ∧ muL m (pc ll) d w.2.1 w.2.2.1 w.1 = muL m (pc ll) d (zrL d) la k) (fun w => w.1) (k, zrL d, la, 1, none) ⟨Nat.le_refl _, hz, ⟨hla, ha⟩, rfl⟩ (fun w => by obtain ⟨_, _, _, _, x⟩ := w; cases x <;> rfl) ?_ (fun w hw => ?_)
  · simp [Sub, lk, zrL]
  · obtain ⟨j, o, b, v5, v2⟩ := w
    simp only at hw
    obtain ⟨hj, ho, hb, hE⟩ := hw
    have hT1 := c_spec_l03Put m ll o b d hm hm2 hl ho.2 ho.1 hb.2 hb.1 hd
    have hT2 := c_spec_l03Put m ll b b d hm hm2 hl hb.2 hb.1 hb.2 hb.1 hd
    cases v2 with
    | none =>
      simp only
      by_cases hs : 0 < j
      · have hs' : (0 : Int) < (j : Int) := by omega
        by_cases ho2 : j % 2 = 1
        · (repeat (first | ((with_reducible refine rgn_cons rfl (fun K hK => ?_)); simp only [go_sem, seval, ↓reduceIte, decide_true, decide_false, hs', nat_tmod2, nat_tdiv2, ho2, Int.cast_ofNat_Int, show (2 : Int) ≠ 0 by omega, wid ((j / 2 : Nat) : Int) (by omega) (by omega)]; (first | refine hK _ _ _ (by simp only [go_sem, Nat.reduceEqDiff, ↓reduceIte]; rfl) ?_ | refine ⟨_, hT1, hK _ _ _ (by simp only [go_sem, Nat.reduceEqDiff, ↓reduceIte]; rfl) ?_⟩ | refine ⟨_, hT2, hK _ _ _ (by simp only [go_sem, Nat.reduceEqDiff, ↓reduceIte]; rfl) ?_⟩); clear hK; clear K) | (with_reducible first | refine rgn_nil (by first | trivial | kernel_rfl) ?_ | refine AWP.seq ?_ | refine tX hC hP (by kernel_rfl) ?_ | refine aX hC hM hP (by kernel_rfl) ?_ | refine AWP.skip ?_ | refine AWP.label ?_ | refine AWP.exit ?_ | refine AWP.block ?_ | refine cTa ?_ | refine cFa ?_) | simp only [qS, Nat.reduceEqDiff, ↓reduceIte]))
          exact ⟨(j / 2, putL m (pc ll) o b d, putL m (pc ll) b b d, v5 + 1, some 1), ⟨by simp only; omega, putL_facts (by omega) _ _ _ _, putL_facts (by omega) _ _ _ _, by rw [← hE]; exact (muL_odd ho2).symm⟩, by simp only; omega, by simp [Sub, lk]⟩
        · have ho3 : j % 2 = 0 := by omega
          (repeat (first | ((with_reducible refine rgn_cons rfl (fun K hK => ?_)); simp only [go_sem, seval, ↓reduceIte, decide_true, decide_false, hs', nat_tmod2, nat_tdiv2, ho3, Int.cast_ofNat_Int, Int.natCast_zero, show (2 : Int) ≠ 0 by omega, wid ((j / 2 : Nat) : Int) (by omega) (by omega)]; (first | refine hK _ _ _ (by simp only [go_sem, Nat.reduceEqDiff, ↓reduceIte]; rfl) ?_ | refine ⟨_, hT2, hK _ _ _ (by simp only [go_sem, Nat.reduceEqDiff, ↓reduceIte]; rfl) ?_⟩); clear hK; clear K) | (with_reducible first | refine rgn_nil (by first | trivial | kernel_rfl) ?_ | refine AWP.seq ?_ | refine tX hC hP (by kernel_rfl) ?_ | refine aX hC hM hP (by kernel_rfl) ?_ | refine AWP.skip ?_ | refine AWP.label ?_ | refine AWP.exit ?_ | refine AWP.block ?_ | refine cTa ?_ | refine cFa ?_) | simp only [qS, Nat.reduceEqDiff, ↓reduceIte]))
          exact ⟨(j / 2, o, putL m (pc ll) b b d, v5, some 1), ⟨by simp only; omega, ho, putL_facts (by omega) _ _ _ _, by rw [← hE]; exact (muL_even hs ho3).symm⟩, by simp only; omega, by simp [Sub, lk]⟩
      · have hj0 : j = 0 := by omega
        subst hj0
        (repeat (first | ((with_reducible refine rgn_cons rfl (fun K hK => ?_)); simp only [go_sem, seval, ↓reduceIte, decide_true, decide_false, show ¬ (0 : Int) < ((0 : Nat) : Int) by omega, Int.natCast_zero, decide_false]; (refine hK _ _ _ (by simp only [go_sem, Nat.reduceEqDiff, ↓reduceIte]; rfl) ?_); clear hK; clear K) | (with_reducible first | refine rgn_nil (by first | trivial | kernel_rfl) ?_ | refine AWP.seq ?_ | refine tX hC hP (by kernel_rfl) ?_ | refine aX hC hM hP (by kernel_rfl) ?_ | refine AWP.skip ?_ | refine AWP.label ?_ | refine AWP.exit ?_ | refine AWP.block ?_ | refine cTa ?_ | refine cFa ?_) | simp only [qS, Nat.reduceEqDiff, ↓reduceIte]))
        (refine AWP.ret ?_; refine retOk1 (by simp only [go_sem, seval, ↓reduceIte, decide_true, decide_false]; rfl) ?_)
        rw [← hE, muL_zero]
    | some v2 =>
      simp only
      by_cases hs : 0 < j
      · have hs' : (0 : Int) < (j : Int) := by omega
        by_cases ho2 : j % 2 = 1
        · (repeat (first | ((with_reducible refine rgn_cons rfl (fun K hK => ?_)); simp only [go_sem, seval, ↓reduceIte, decide_true, decide_false, hs', nat_tmod2, nat_tdiv2, ho2, Int.cast_ofNat_Int, show (2 : Int) ≠ 0 by omega, wid ((j / 2 : Nat) : Int) (by omega) (by omega)]; (first | refine hK _ _ _ (by simp only [go_sem, Nat.reduceEqDiff, ↓reduceIte]; rfl) ?_ | refine ⟨_, hT1, hK _ _ _ (by simp only [go_sem, Nat.reduceEqDiff, ↓reduceIte]; rfl) ?_⟩ | refine ⟨_, hT2, hK _ _ _ (by simp only [go_sem, Nat.reduceEqDiff, ↓reduceIte]; rfl) ?_⟩); clear hK; clear K) | (with_reducible first | refine rgn_nil (by first | trivial | kernel_rfl) ?_ | refine AWP.seq ?_ | refine tX hC hP (by kernel_rfl) ?_ | refine aX hC hM hP (by kernel_rfl) ?_ | refine AWP.skip ?_ | refine AWP.label ?_ | refine AWP.exit ?_ | refine AWP.block ?_ | refine cTa ?_ | refine cFa ?_) | simp only [qS, Nat.reduceEqDiff, ↓reduceIte]))
          exact ⟨(j / 2, putL m (pc ll) o b d, putL m (pc ll) b b d, v5 + 1, some (v2 + 1)), ⟨by simp only; omega, putL_facts (by omega) _ _ _ _, putL_facts (by omega) _ _ _ _, by rw [← hE]; exact (muL_odd ho2).symm⟩, by simp only; omega, by simp [Sub, lk]⟩
        · have ho3 : j % 2 = 0 := by omega
          (repeat (first | ((with_reducible refine rgn_cons rfl (fun K hK => ?_)); simp only [go_sem, seval, ↓reduceIte, decide_true, decide_false, hs', nat_tmod2, nat_tdiv2, ho3, Int.cast_ofNat_Int, Int.natCast_zero, show (2 : Int) ≠ 0 by omega, wid ((j / 2 : Nat) : Int) (by omega) (by omega)]; (first | refine hK _ _ _ (by simp only [go_sem, Nat.reduceEqDiff, ↓reduceIte]; rfl) ?_ | refine ⟨_, hT2, hK _ _ _ (by simp only [go_sem, Nat.reduceEqDiff, ↓reduceIte]; rfl) ?_⟩); clear hK; clear K) | (with_reducible first | refine rgn_nil (by first | trivial | kernel_rfl) ?_ | refine AWP.seq ?_ | refine tX hC hP (by kernel_rfl) ?_ | refine aX hC hM hP (by kernel_rfl) ?_ | refine AWP.skip ?_ | refine AWP.label ?_ | refine AWP.exit ?_ | refine AWP.block ?_ | refine cTa ?_ | refine cFa ?_) | simp only [qS, Nat.reduceEqDiff, ↓reduceIte]))
          exact ⟨(j / 2, o, putL m (pc ll) b b d, v5, some (v2 + 1)), ⟨by simp only; omega, ho, putL_facts (by omega) _ _ _ _, by rw [← hE]; exact (muL_even hs ho3).symm⟩, by simp only; omega, by simp [Sub, lk]⟩
      · have hj0 : j = 0 := by omega
        subst hj0
        (repeat (first | ((with_reducible refine rgn_cons rfl (fun K hK => ?_)); simp only [go_sem, seval, ↓reduceIte, decide_true, decide_false, show ¬ (0 : Int) < ((0 : Nat) : Int) by omega, Int.natCast_zero, decide_false]; (refine hK _ _ _ (by simp only [go_sem, Nat.reduceEqDiff, ↓reduceIte]; rfl) ?_); clear hK; clear K) | (with_reducible first | refine rgn_nil (by first | trivial | kernel_rfl) ?_ | refine AWP.seq ?_ | refine tX hC hP (by kernel_rfl) ?_ | refine aX hC hM hP (by kernel_rfl) ?_ | refine AWP.skip ?_ | refine AWP.label ?_ | refine AWP.exit ?_ | refine AWP.block ?_ | refine cTa ?_ | refine cFa ?_) | simp only [qS, Nat.reduceEqDiff, ↓reduceIte]))
        (refine AWP.ret ?_; refine retOk1 (by simp only [go_sem, seval, ↓reduceIte, decide_true, decide_false]; rfl) ?_)
        rw [← hE, muL_zero]
set_option maxHeartbeats 1000000 in
theorem c_spec_l04Multiple_neg (m n : Int) (ll : List (List Int)) (la : List Int) (d : Nat) (hm : 1 < m) (hm2 : m ≤ 10000) (hl : Pl m (d + 1) ll) (hd1 : 1 ≤ d) (hd : d ≤ 999) (ha : ∀ x ∈ la, 0 ≤ x ∧ x < m) (hla : la.length = d + 1) (hn : -1000000000000 ≤ n) (hn2 : n ≤ 1000000000000) (h : n < 0) : AFn Try.prog 114 [.agg [.int .i64 m, .sl false 25 (rowsF ll)], .int .i64 n, .sl false 2 (intL la)] (.sl true 2 (intL (mzL m (pc ll) d la n))) := by
  refine AFn.of' ttOk (by decide) Try.func114 Try.ntmps114 (by rw [Try.results114]) (by rfl) (by rfl) (by simp) (by decide) (by simp only [go_sem, Nat.reduceAdd, ↓reduceIte]; rfl) mixed (fun C hP hM hC => ?_)
  have e : mzL m (pc ll) d la n = opL m (pc ll) d (muL m (pc ll) d (zrL d) la (-n).toNat) := if_pos h
  have hz := zrL_facts (m := m) (by omega) d
  have hf := muL_facts (m := m) (t := pc ll) (b := la) (by omega) (-n).toNat hz.1 hz.2
  have hM1 := c_spec_l04Multiple_pos m ll la (-n).toNat d hm hm2 hl hd1 hd ha hla (by omega)
  rw [show (((-n).toNat : Nat) : Int) = -n by omega] at hM1
  (repeat (first | ((with_reducible refine rgn_cons rfl (fun K hK => ?_)); simp only [go_sem, seval, ↓reduceIte, decide_true, decide_false, h, decide_true, Int.zero_sub, wid (-n) (by omega) (by omega)]; (first | refine hK _ _ _ (by simp only [go_sem, Nat.reduceEqDiff, ↓reduceIte]; rfl) ?_ | refine ⟨_, hM1, hK _ _ _ (by simp only [go_sem, Nat.reduceEqDiff, ↓reduceIte]; rfl) ?_⟩ | refine ⟨_, c_spec_l04Opposite m ll (muL m (pc ll) d (zrL d) la (-n).toNat) d hm hm2 hl hd1 hd hf.2 hf.1, hK _ _ _ (by simp only [go_sem, Nat.reduceEqDiff, ↓reduceIte]; rfl) ?_⟩); clear hK; clear K) | (with_reducible first | refine rgn_nil (by first | trivial | kernel_rfl) ?_ | refine AWP.seq ?_ | refine tX hC hP (by kernel_rfl) ?_ | refine aX hC hM hP (by kernel_rfl) ?_ | refine AWP.skip ?_ | refine AWP.label ?_ | refine AWP.exit ?_ | refine AWP.block ?_ | refine cTa ?_ | refine cFa ?_) | simp only [qS, Nat.reduceEqDiff, ↓reduceIte]))
  (refine AWP.ret ?_; refine retOk1 (by simp only [go_sem, seval, ↓reduceIte, decide_true, decide_false]; rfl) ?_)
  rw [e]
theorem c_spec_l04Multiple (m n : Int) (ll : List (List Int)) (la : List Int) (d : Nat) (hm : 1 < m) (hm2 : m ≤ 10000) (hl : Pl m (d + 1) ll) (hd1 : 1 ≤ d) (hd : d ≤ 999) (ha : ∀ x ∈ la, 0 ≤ x ∧ x < m) (hla : la.length = d + 1) (hn : -1000000000000 ≤ n) (hn2 : n ≤ 1000000000000) : AFn Try.prog 114 [.agg [.int .i64 m, .sl false 25 (rowsF ll)], .int .i64 n, .sl false 2 (intL la)] (.sl true 2 (intL (mzL m (pc ll) d la n))) := by
  by_cases h : n < 0
  · exact c_spec_l04Multiple_neg m n ll la d hm hm2 hl hd1 hd ha hla hn hn2 h
  · have e : mzL m (pc ll) d la n = muL m (pc ll) d (zrL d) la n.toNat := if_neg h
    have hM1 := c_spec_l04Multiple_pos m ll la n.toNat d hm hm2 hl hd1 hd ha hla (by omega)
    rw [show ((n.toNat : Nat) : Int) = n by omega] at hM1
    rw [e]
    exact hM1
set_option maxHeartbeats 1000000 in
theorem c_spec_l04Of (m n : Int) (ll : List (List Int)) (d : Nat) (hm : 1 < m) (hm2 : m ≤ 10000) (hl : Pl m (d + 1) ll) (hd1 : 1 ≤ d) (hd : d ≤ 999) (hn : -1000000000000 ≤ n) (hn2 : n ≤ 1000000000000) : AFn Try.prog 83 [.agg [.int .i64 m, .sl false 25 (rowsF ll)], .int .i64 n] (.sl true 2 (intL (mzL m (pc ll) d (varL d) n))) := by
  refine AFn.of' ttOk (by decide) Try.func83 Try.ntmps83 (by rw [Try.results83]) (by rfl) (by rfl) (by simp) (by decide) (by simp only [go_sem, Nat.reduceAdd, ↓reduceIte]; rfl) mixed (fun C hP hM hC => ?_)
  have hV := varL_facts hm d
  have h1 : 1 < (tab (d + 1) (fun _ => 0)).length := by rw [tab_length]; omega
  (repeat (first | ((with_reducible refine rgn_cons rfl (fun K hK => ?_)); simp only [go_sem, seval, ↓reduceIte, decide_true, decide_false, rowsF_length, hl.len, Int.natCast_nonneg, Int.toNat_natCast, show ((d + 1 : Nat) : Int) ≤ 1099511627776 by omega, intL_replicate, tab_zero, tab_length, show (0 : Int) ≤ 1 by decide, show (1 : Int).toNat = 1 from rfl, show (1 : Int) < ((d + 1 : Nat) : Int) by omega, intL_get _ _ h1, sizeL_take _ _ (Nat.le_of_lt h1), Nat.mul_one, intL_modify, varL_set hd1]; (first | refine hK _ _ _ (by simp only [go_sem, Nat.reduceEqDiff, ↓reduceIte]; rfl) ?_ | refine ⟨_, c_spec_l04Multiple m n ll (varL d) d hm hm2 hl hd1 hd hV.2 hV.1 hn hn2, hK _ _ _ (by simp only [go_sem, Nat.reduceEqDiff, ↓reduceIte]; rfl) ?_⟩); clear hK; clear K) | (with_reducible first | refine rgn_nil (by first | trivial | kernel_rfl) ?_ | refine AWP.seq ?_ | refine tX hC hP (by kernel_rfl) ?_ | refine aX hC hM hP (by kernel_rfl) ?_ | refine AWP.skip ?_ | refine AWP.label ?_ | refine AWP.exit ?_ | refine AWP.block ?_ | refine cTa ?_ | refine cFa ?_) | simp only [qS, Nat.reduceEqDiff, ↓reduceIte]))
  (refine AWP.ret ?_; refine retOk1 (by simp only [go_sem, seval, ↓reduceIte, decide_true, decide_false]; rfl) ?_)
  rfl
end Go.Proofs.Ytfnfdjomkohfjaa
