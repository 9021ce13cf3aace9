/-
  WittOfBig.
-/
import Derived.Test.YtdnaecmcbkfpaaaGreatHm
namespace Go.Proofs.YtdnaecmcbkfpaaaGreat
open Go.RowKit
set_option linter.unusedSimpArgs false
set_option linter.unusedVariables false
set_option linter.unusedSectionVars false
set_option maxRecDepth 20000
-- WittOfBig.
def wobC (p m : Int) (l : List Int) (n : Int) : Int := if isBig m l = true then (if typB p = true ∧ (1 ≤ n ∧ n ≤ (l.length : Int) - 1) ∧ n % p ≠ 0 then pwC p m else 2) else 1
theorem wobC_zero {p m n : Int} {l : List Int} (h : wobC p m l n = 0) : isBig m l = true ∧ typB p = true ∧ (1 ≤ n ∧ n ≤ (l.length : Int) - 1) ∧ n % p ≠ 0 ∧ powB p.toNat m.toNat = true := by
  unfold wobC at h
  split at h
  · rename_i h1
    split at h
    · rename_i h2; exact ⟨h1, h2.1, h2.2.1, h2.2.2, pwC_zero h⟩
    · cases h
  · cases h
/-- Every p-th of the blocks, from the place k on. -/
def wbL (b : List Int) (p d : Nat) : Nat → Nat → List Int
  | 0, _ => []
  | f + 1, k => if k ≤ d then at' b (k - 1) :: wbL b p d f (k * p) else []
theorem wbL_len (b : List Int) (p d : Nat) : ∀ f k, (wbL b p d f k).length ≤ f
  | 0, _ => Nat.le_refl _
  | f + 1, k => by
    unfold wbL
    split
    · have := wbL_len b p d f (k * p)
      simp only [List.length_cons]; omega
    · simp
theorem wbL_next {b acc r : List Int} {p d k : Nat} (hk : k ≤ d) (ha : acc.length < 4) (h : acc ++ wbL b p d (4 - acc.length) k = r) : (acc ++ [at' b (k - 1)]) ++ wbL b p d (4 - (acc ++ [at' b (k - 1)]).length) (k * p) = r := by
  rw [← h, show 4 - acc.length = (4 - (acc ++ [at' b (k - 1)]).length) + 1 by simp; omega]
  rw [wbL, if_pos hk]
  simp
theorem wbL_stop {b acc r : List Int} {p d k : Nat} (hk : ¬ k ≤ d ∨ ¬ acc.length < 4) (h : acc ++ wbL b p d (4 - acc.length) k = r) : acc = r := by
  rw [← h]
  rcases hk with h1 | h1
  · cases e : 4 - acc.length with
    | zero => simp [wbL]
    | succ f => rw [wbL, if_neg h1, List.append_nil]
  · rw [show 4 - acc.length = 0 by omega]; simp [wbL]
set_option maxHeartbeats 2000000 in
theorem c_spec_WittOfBig_nat (P N : Nat) (m : Int) (l : List Int) (hl : l.length ≤ 1099511627776) (h : wobC P m l N = 0) : AFn Tryz.prog 26 [.int .i64 P, .agg [.int .i64 m, .sl false 2 (intL l)], .int .i64 N] (.tup [.agg [.int .i64 P, .int .i64 m, .sl true 2 (intL (wbL (bkL m (ahL P m (l.length - 1)) l (l.length - 1)) P (l.length - 1) 4 N))], .int .i64 0]) := by
  refine AFn.of' ttOk (by decide) Tryz.func26 Tryz.ntmps26 (by rw [Tryz.results26]) (by rfl) (by rfl) (by simp) (by decide) (by simp only [go_sem, Nat.reduceAdd, ↓reduceIte]; rfl) mixed (fun C hP hM hC => ?_)
  have hz := wobC_zero h
  have hb := isBig_of hz.1
  have hp := typB_of hz.2.1
  rw [Int.toNat_natCast] at hp
  have hpb := hp.1.b
  have hk0 : blkC P m l = 0 := by simp only [blkC, hz.1, hz.2.1, if_true, pwC, hz.2.2.2.2]
  have hB := c_spec_l15Big P m l hl
  rw [hk0] at hB
  have hS := c_spec_l15Blocks_i P m l hk0
  rw [Int.toNat_natCast] at hS
  (repeat (first | ((with_reducible refine rgn_cons rfl (fun K hK => ?_)); simp only [go_sem, seval, ↓reduceIte, decide_true, decide_false, show ((0 : Int) != 1) = true from rfl, show ((0 : Int) != 0) = false from rfl, hz.2.1, wid ((l.length : Int) - 1) (by omega) (by omega), and_yes hz.2.2.1, show (P : Int) ≠ 0 by omega, tm (N : Int) (P : Int) (Int.natCast_nonneg _), show ((N : Int) % (P : Int) == 0) = false by simpa using hz.2.2.2.1]; (first | refine hK _ _ _ (by simp only [go_sem, Nat.reduceEqDiff, ↓reduceIte]; rfl) ?_ | refine ⟨_, hB, hK _ _ _ (by simp only [go_sem, Nat.reduceEqDiff, ↓reduceIte]; rfl) ?_⟩ | refine ⟨_, c_spec_l09Prime P, hK _ _ _ (by simp only [go_sem, Nat.reduceEqDiff, ↓reduceIte]; rfl) ?_⟩ | refine ⟨_, c_spec_l01In _ _ _, hK _ _ _ (by simp only [go_sem, Nat.reduceEqDiff, ↓reduceIte]; rfl) ?_⟩ | refine ⟨_, hS, hK _ _ _ (by simp only [go_sem, Nat.reduceEqDiff, ↓reduceIte]; rfl) ?_⟩); clear hK; clear K) | (with_reducible first | refine rgn_nil (by first | trivial | kernel_rfl) ?_ | refine AWP.seq ?_ | refine tX hC hP (by kernel_rfl) ?_ | refine aX hC hM hP (by kernel_rfl) ?_ | refine AWP.skip ?_ | refine AWP.label ?_ | refine AWP.exit ?_ | refine AWP.block ?_ | refine cTa ?_ | refine cFa ?_) | simp only [qS, Nat.reduceEqDiff, ↓reduceIte]))
  refine AWP.loop (fun w : List Int × Nat × Nat => match w with
    | ([], k, v) => [(11, ⟨0, .val (.int .i64 k)⟩), (10, ⟨v, .own (.box 42 (.agg [.int .i64 P, .int .i64 m, .nil]))⟩), (9, ⟨1, .own (.sl true 2 (intL (bkL m (ahL P m (l.length - 1)) l (l.length - 1))))⟩), (0, ⟨0, .val (.int .i64 P)⟩), (6, ⟨1, .own (.box 42 (.agg [.int .i64 0, .int .i64 0, .nil]))⟩)]
    | (x :: acc, k, v) => [(11, ⟨0, .val (.int .i64 k)⟩), (10, ⟨v, .own (.box 42 (.agg [.int .i64 P, .int .i64 m, .sl true 2 (intL (x :: acc))]))⟩), (9, ⟨1, .own (.sl true 2 (intL (bkL m (ahL P m (l.length - 1)) l (l.length - 1))))⟩), (0, ⟨0, .val (.int .i64 P)⟩), (6, ⟨1, .own (.box 42 (.agg [.int .i64 0, .int .i64 0, .nil]))⟩)]) (fun w => 1 ≤ w.2.1 ∧ w.2.1 ≤ 100 ∧ w.1.length ≤ 4 ∧ w.1 ++ wbL (bkL m (ahL P m (l.length - 1)) l (l.length - 1)) P (l.length - 1) (4 - w.1.length) w.2.1 = wbL (bkL m (ahL P m (l.length - 1)) l (l.length - 1)) P (l.length - 1) 4 N ∧ (w.1 = [] → w.2.1 = N)) (fun w => 4 - w.1.length) ([], N, 2) ⟨by simp only; omega, by simp only; omega, by simp, by simp, fun _ => rfl⟩ (fun i => by obtain ⟨a, k, v⟩ := i; cases a <;> rfl) ?_ (fun w hw => ?_)
  · simp [Sub, lk]
  · obtain ⟨acc, k, v⟩ := w
    simp only at hw
    have hbl := bkL_length m (ahL P m (l.length - 1)) l (l.length - 1)
    generalize hbe : bkL m (ahL P m (l.length - 1)) l (l.length - 1) = b at hw hbl ⊢
    by_cases hgo : k ≤ l.length - 1 ∧ acc.length < 4
    · have hkl : k - 1 < b.length := by omega
      have hnx := wbL_next hgo.1 hgo.2 hw.2.2.2.1
      have hkp : k * P ≤ 10 * 7 := Nat.mul_le_mul (by omega) hpb.2
      have hk1 : 1 ≤ k * P := Nat.mul_pos (by omega) (by omega)
      have u := widM (k * P) (by omega)
      have u2 : IntKind.i64.wrap ((k : Int) - 1) = ((k - 1 : Nat) : Int) := by rw [wid _ (by omega) (by omega)]; omega
      cases acc with
      | nil =>
        simp only
        (repeat (first | ((with_reducible refine rgn_cons rfl (fun K hK => ?_)); simp only [go_sem, seval, ↓reduceIte, decide_true, decide_false, hbl, show (k : Int) ≤ ((l.length - 1 : Nat) : Int) by omega, decide_true, show (0 : Int) < 4 by decide, u2, Int.toNat_natCast, Int.natCast_nonneg, show ((k - 1 : Nat) : Int) < ((l.length - 1 : Nat) : Int) by omega, intL_get _ _ hkl, sizeL_take _ _ (Nat.le_of_lt hkl), Nat.mul_one, show b.getD (k - 1) 0 = at' b (k - 1) from rfl, ← Int.natCast_mul, u]; (refine hK _ _ _ (by simp only [go_sem, Nat.reduceEqDiff, ↓reduceIte]; rfl) ?_); clear hK; clear K) | (with_reducible first | refine rgn_nil (by first | trivial | kernel_rfl) ?_ | refine AWP.seq ?_ | refine tX hC hP (by kernel_rfl) ?_ | refine aX hC hM hP (by kernel_rfl) ?_ | refine AWP.skip ?_ | refine AWP.label ?_ | refine AWP.exit ?_ | refine AWP.block ?_ | refine cTa ?_ | refine cFa ?_) | simp only [qS, Nat.reduceEqDiff, ↓reduceIte]))
        exact ⟨([at' b (k - 1)], k * P, v + 1), ⟨hk1, by simp only; omega, by simp, hnx, by simp⟩, by simp, by simp [Sub, lk, intL]⟩
      | cons x acc =>
        simp only
        simp only [List.length_cons] at hgo
        (repeat (first | ((with_reducible refine rgn_cons rfl (fun K hK => ?_)); simp only [go_sem, seval, ↓reduceIte, decide_true, decide_false, hbl, show (k : Int) ≤ ((l.length - 1 : Nat) : Int) by omega, decide_true, List.length_cons, show ((acc.length + 1 : Nat) : Int) < 4 by omega, u2, Int.toNat_natCast, Int.natCast_nonneg, show ((k - 1 : Nat) : Int) < ((l.length - 1 : Nat) : Int) by omega, intL_get _ _ hkl, sizeL_take _ _ (Nat.le_of_lt hkl), Nat.mul_one, show b.getD (k - 1) 0 = at' b (k - 1) from rfl, ← Int.natCast_mul, u, intL_snoc, show acc.length + 1 + 1 ≤ 1099511627776 by omega, show (acc.length + 1 + 1) * 8 ≤ 140737488355328 by omega]; (refine hK _ _ _ (by simp only [go_sem, Nat.reduceEqDiff, ↓reduceIte]; rfl) ?_); clear hK; clear K) | (with_reducible first | refine rgn_nil (by first | trivial | kernel_rfl) ?_ | refine AWP.seq ?_ | refine tX hC hP (by kernel_rfl) ?_ | refine aX hC hM hP (by kernel_rfl) ?_ | refine AWP.skip ?_ | refine AWP.label ?_ | refine AWP.exit ?_ | refine AWP.block ?_ | refine cTa ?_ | refine cFa ?_) | simp only [qS, Nat.reduceEqDiff, ↓reduceIte]))
        exact ⟨(x :: (acc ++ [at' b (k - 1)]), k * P, v + 1), ⟨hk1, by simp only; omega, by simp; omega, hnx, by simp⟩, by simp; omega, by simp [Sub, lk]⟩
    · have hst := wbL_stop (Decidable.not_and_iff_or_not.1 hgo) hw.2.2.2.1
      rw [← hst]
      cases acc with
      | nil =>
        simp only
        exact absurd ⟨by have := hw.2.2.2.2 rfl; omega, by simp⟩ hgo
      | cons x acc =>
        simp only
        by_cases h1 : k ≤ l.length - 1
        · (repeat (first | ((with_reducible refine rgn_cons rfl (fun K hK => ?_)); simp only [go_sem, seval, ↓reduceIte, decide_true, decide_false, hbl, show (k : Int) ≤ ((l.length - 1 : Nat) : Int) by omega, decide_true, List.length_cons, show ¬ ((acc.length + 1 : Nat) : Int) < 4 by simp only [List.length_cons] at hgo; omega, decide_false]; (refine hK _ _ _ (by simp only [go_sem, Nat.reduceEqDiff, ↓reduceIte]; rfl) ?_); clear hK; clear K) | (with_reducible first | refine rgn_nil (by first | trivial | kernel_rfl) ?_ | refine AWP.seq ?_ | refine tX hC hP (by kernel_rfl) ?_ | refine aX hC hM hP (by kernel_rfl) ?_ | refine AWP.skip ?_ | refine AWP.label ?_ | refine AWP.exit ?_ | refine AWP.block ?_ | refine cTa ?_ | refine cFa ?_) | simp only [qS, Nat.reduceEqDiff, ↓reduceIte]))
          (refine AWP.ret ?_; refine retOk2 (by simp only [go_sem, seval, ↓reduceIte, decide_true, decide_false]; rfl) (by simp only [go_sem, seval, ↓reduceIte, decide_true, decide_false]; rfl) (by simp) ?_)
          rfl
        · (repeat (first | ((with_reducible refine rgn_cons rfl (fun K hK => ?_)); simp only [go_sem, seval, ↓reduceIte, decide_true, decide_false, hbl, show ¬ (k : Int) ≤ ((l.length - 1 : Nat) : Int) by omega, decide_false]; (refine hK _ _ _ (by simp only [go_sem, Nat.reduceEqDiff, ↓reduceIte]; rfl) ?_); clear hK; clear K) | (with_reducible first | refine rgn_nil (by first | trivial | kernel_rfl) ?_ | refine AWP.seq ?_ | refine tX hC hP (by kernel_rfl) ?_ | refine aX hC hM hP (by kernel_rfl) ?_ | refine AWP.skip ?_ | refine AWP.label ?_ | refine AWP.exit ?_ | refine AWP.block ?_ | refine cTa ?_ | refine cFa ?_) | simp only [qS, Nat.reduceEqDiff, ↓reduceIte]))
          (refine AWP.ret ?_; refine retOk2 (by simp only [go_sem, seval, ↓reduceIte, decide_true, decide_false]; rfl) (by simp only [go_sem, seval, ↓reduceIte, decide_true, decide_false]; rfl) (by simp) ?_)
          rfl
set_option maxHeartbeats 2000000 in
theorem c_impl_WittOfBig_nat (P N : Nat) (m : Int) (l : List Int) (hl : l.length ≤ 1099511627776) (h : wobC P m l N = 0) : AFn Tryz.prog 25 [.int .i64 P, .agg [.int .i64 m, .sl false 2 (intL l)], .int .i64 N] (.tup [.agg [.int .i64 P, .int .i64 m, .sl true 2 (intL (wbL (bkL m (ahL P m (l.length - 1)) l (l.length - 1)) P (l.length - 1) 4 N))], .int .i64 0]) := by
  refine AFn.of' ttOk (by decide) Tryz.func25 Tryz.ntmps25 (by rw [Tryz.results25]) (by rfl) (by rfl) (by simp) (by decide) (by simp only [go_sem, Nat.reduceAdd, ↓reduceIte]; rfl) mixed (fun C hP hM hC => ?_)
  have hz := wobC_zero h
  have hb := isBig_of hz.1
  have hp := typB_of hz.2.1
  rw [Int.toNat_natCast] at hp
  have hpb := hp.1.b
  have hk0 : blkC P m l = 0 := by simp only [blkC, hz.1, hz.2.1, if_true, pwC, hz.2.2.2.2]
  have hD := c_impl_Series_degree m l hl
  have hS := c_impl_blocks_i P m l hk0
  rw [Int.toNat_natCast] at hS
  (repeat (first | ((with_reducible refine rgn_cons rfl (fun K hK => ?_)); simp only [go_sem, seval, ↓reduceIte, decide_true, decide_false, hz.1, hz.2.1, hz.2.2.2.2, and_yes hz.2.2.1, show (P : Int) ≠ 0 by omega, tm (N : Int) (P : Int) (Int.natCast_nonneg _), show ((N : Int) % (P : Int) == 0) = false by simpa using hz.2.2.2.1]; (first | refine hK _ _ _ (by simp only [go_sem, Nat.reduceEqDiff, ↓reduceIte]; rfl) ?_ | refine ⟨_, c_impl_IsBigVector m l hl, hK _ _ _ (by simp only [go_sem, Nat.reduceEqDiff, ↓reduceIte]; rfl) ?_⟩ | refine ⟨_, c_impl_isTypicalPrime P, hK _ _ _ (by simp only [go_sem, Nat.reduceEqDiff, ↓reduceIte]; rfl) ?_⟩ | refine ⟨_, hD, hK _ _ _ (by simp only [go_sem, Nat.reduceEqDiff, ↓reduceIte]; rfl) ?_⟩ | refine ⟨_, c_impl_in _ _ _, hK _ _ _ (by simp only [go_sem, Nat.reduceEqDiff, ↓reduceIte]; rfl) ?_⟩ | refine ⟨_, c_impl_isPowerOf_i P m hz.2.1 ⟨hb.1, hb.2.1⟩, hK _ _ _ (by simp only [go_sem, Nat.reduceEqDiff, ↓reduceIte]; rfl) ?_⟩ | refine ⟨_, hS, hK _ _ _ (by simp only [go_sem, Nat.reduceEqDiff, ↓reduceIte]; rfl) ?_⟩); clear hK; clear K) | (with_reducible first | refine rgn_nil (by first | trivial | kernel_rfl) ?_ | refine AWP.seq ?_ | refine tX hC hP (by kernel_rfl) ?_ | refine aX hC hM hP (by kernel_rfl) ?_ | refine AWP.skip ?_ | refine AWP.label ?_ | refine AWP.exit ?_ | refine AWP.block ?_ | refine cTa ?_ | refine cFa ?_) | simp only [qS, Nat.reduceEqDiff, ↓reduceIte]))
  refine AWP.loop (fun w : List Int × Nat × Nat => match w with
    | ([], k, v) => [(10, ⟨0, .val (.int .i64 k)⟩), (9, ⟨v, .own (.box 42 (.agg [.int .i64 P, .int .i64 m, .nil]))⟩), (8, ⟨1, .own (.sl true 2 (intL (bkL m (ahL P m (l.length - 1)) l (l.length - 1))))⟩), (0, ⟨0, .val (.int .i64 P)⟩), (4, ⟨1, .own (.box 31 (.agg [.int .i64 m, .sl false 2 (intL l)]))⟩), (6, ⟨1, .own (.box 42 (.agg [.int .i64 0, .int .i64 0, .nil]))⟩)]
    | (x :: acc, k, v) => [(10, ⟨0, .val (.int .i64 k)⟩), (9, ⟨v, .own (.box 42 (.agg [.int .i64 P, .int .i64 m, .sl true 2 (intL (x :: acc))]))⟩), (8, ⟨1, .own (.sl true 2 (intL (bkL m (ahL P m (l.length - 1)) l (l.length - 1))))⟩), (0, ⟨0, .val (.int .i64 P)⟩), (4, ⟨1, .own (.box 31 (.agg [.int .i64 m, .sl false 2 (intL l)]))⟩), (6, ⟨1, .own (.box 42 (.agg [.int .i64 0, .int .i64 0, .nil]))⟩)]) (fun w => 1 ≤ w.2.1 ∧ w.2.1 ≤ 100 ∧ w.1.length ≤ 4 ∧ w.1 ++ wbL (bkL m (ahL P m (l.length - 1)) l (l.length - 1)) P (l.length - 1) (4 - w.1.length) w.2.1 = wbL (bkL m (ahL P m (l.length - 1)) l (l.length - 1)) P (l.length - 1) 4 N ∧ (w.1 = [] → w.2.1 = N)) (fun w => 4 - w.1.length) ([], N, 2) ⟨by simp only; omega, by simp only; omega, by simp, by simp, fun _ => rfl⟩ (fun i => by obtain ⟨a, k, v⟩ := i; cases a <;> rfl) ?_ (fun w hw => ?_)
  · simp [Sub, lk]
  · obtain ⟨acc, k, v⟩ := w
    simp only at hw
    have hbl := bkL_length m (ahL P m (l.length - 1)) l (l.length - 1)
    generalize hbe : bkL m (ahL P m (l.length - 1)) l (l.length - 1) = b at hw hbl ⊢
    by_cases hgo : k ≤ l.length - 1 ∧ acc.length < 4
    · have hkl : k - 1 < b.length := by omega
      have hnx := wbL_next hgo.1 hgo.2 hw.2.2.2.1
      have hkp : k * P ≤ 10 * 7 := Nat.mul_le_mul (by omega) hpb.2
      have hk1 : 1 ≤ k * P := Nat.mul_pos (by omega) (by omega)
      have u := widM (k * P) (by omega)
      have u2 : IntKind.i64.wrap ((k : Int) - 1) = ((k - 1 : Nat) : Int) := by rw [wid _ (by omega) (by omega)]; omega
      cases acc with
      | nil =>
        simp only
        (repeat (first | ((with_reducible refine rgn_cons rfl (fun K hK => ?_)); simp only [go_sem, seval, ↓reduceIte, decide_true, decide_false, hbl, show (k : Int) ≤ (l.length : Int) - 1 by omega, decide_true, show (0 : Int) < 4 by decide, u2, Int.toNat_natCast, Int.natCast_nonneg, show ((k - 1 : Nat) : Int) < ((l.length - 1 : Nat) : Int) by omega, intL_get _ _ hkl, sizeL_take _ _ (Nat.le_of_lt hkl), Nat.mul_one, show b.getD (k - 1) 0 = at' b (k - 1) from rfl, ← Int.natCast_mul, u]; (first | refine hK _ _ _ (by simp only [go_sem, Nat.reduceEqDiff, ↓reduceIte]; rfl) ?_ | refine ⟨_, hD, hK _ _ _ (by simp only [go_sem, Nat.reduceEqDiff, ↓reduceIte]; rfl) ?_⟩); clear hK; clear K) | (with_reducible first | refine rgn_nil (by first | trivial | kernel_rfl) ?_ | refine AWP.seq ?_ | refine tX hC hP (by kernel_rfl) ?_ | refine aX hC hM hP (by kernel_rfl) ?_ | refine AWP.skip ?_ | refine AWP.label ?_ | refine AWP.exit ?_ | refine AWP.block ?_ | refine cTa ?_ | refine cFa ?_) | simp only [qS, Nat.reduceEqDiff, ↓reduceIte]))
        exact ⟨([at' b (k - 1)], k * P, v + 1), ⟨hk1, by simp only; omega, by simp, hnx, by simp⟩, by simp, by simp [Sub, lk, intL]⟩
      | cons x acc =>
        simp only
        simp only [List.length_cons] at hgo
        (repeat (first | ((with_reducible refine rgn_cons rfl (fun K hK => ?_)); simp only [go_sem, seval, ↓reduceIte, decide_true, decide_false, hbl, show (k : Int) ≤ (l.length : Int) - 1 by omega, decide_true, List.length_cons, show ((acc.length + 1 : Nat) : Int) < 4 by omega, u2, Int.toNat_natCast, Int.natCast_nonneg, show ((k - 1 : Nat) : Int) < ((l.length - 1 : Nat) : Int) by omega, intL_get _ _ hkl, sizeL_take _ _ (Nat.le_of_lt hkl), Nat.mul_one, show b.getD (k - 1) 0 = at' b (k - 1) from rfl, ← Int.natCast_mul, u, intL_snoc, show acc.length + 1 + 1 ≤ 1099511627776 by omega, show (acc.length + 1 + 1) * 8 ≤ 140737488355328 by omega]; (first | refine hK _ _ _ (by simp only [go_sem, Nat.reduceEqDiff, ↓reduceIte]; rfl) ?_ | refine ⟨_, hD, hK _ _ _ (by simp only [go_sem, Nat.reduceEqDiff, ↓reduceIte]; rfl) ?_⟩); clear hK; clear K) | (with_reducible first | refine rgn_nil (by first | trivial | kernel_rfl) ?_ | refine AWP.seq ?_ | refine tX hC hP (by kernel_rfl) ?_ | refine aX hC hM hP (by kernel_rfl) ?_ | refine AWP.skip ?_ | refine AWP.label ?_ | refine AWP.exit ?_ | refine AWP.block ?_ | refine cTa ?_ | refine cFa ?_) | simp only [qS, Nat.reduceEqDiff, ↓reduceIte]))
        exact ⟨(x :: (acc ++ [at' b (k - 1)]), k * P, v + 1), ⟨hk1, by simp only; omega, by simp; omega, hnx, by simp⟩, by simp; omega, by simp [Sub, lk]⟩
    · have hst := wbL_stop (Decidable.not_and_iff_or_not.1 hgo) hw.2.2.2.1
      rw [← hst]
      cases acc with
      | nil =>
        simp only
        exact absurd ⟨by have := hw.2.2.2.2 rfl; omega, by simp⟩ hgo
      | cons x acc =>
        simp only
        by_cases h1 : k ≤ l.length - 1
        · (repeat (first | ((with_reducible refine rgn_cons rfl (fun K hK => ?_)); simp only [go_sem, seval, ↓reduceIte, decide_true, decide_false, hbl, show (k : Int) ≤ (l.length : Int) - 1 by omega, decide_true, List.length_cons, show ¬ ((acc.length + 1 : Nat) : Int) < 4 by simp only [List.length_cons] at hgo; omega, decide_false]; (first | refine hK _ _ _ (by simp only [go_sem, Nat.reduceEqDiff, ↓reduceIte]; rfl) ?_ | refine ⟨_, hD, hK _ _ _ (by simp only [go_sem, Nat.reduceEqDiff, ↓reduceIte]; rfl) ?_⟩); clear hK; clear K) | (with_reducible first | refine rgn_nil (by first | trivial | kernel_rfl) ?_ | refine AWP.seq ?_ | refine tX hC hP (by kernel_rfl) ?_ | refine aX hC hM hP (by kernel_rfl) ?_ | refine AWP.skip ?_ | refine AWP.label ?_ | refine AWP.exit ?_ | refine AWP.block ?_ | refine cTa ?_ | refine cFa ?_) | simp only [qS, Nat.reduceEqDiff, ↓reduceIte]))
          (refine AWP.ret ?_; refine retOk2 (by simp only [go_sem, seval, ↓reduceIte, decide_true, decide_false]; rfl) (by simp only [go_sem, seval, ↓reduceIte, decide_true, decide_false]; rfl) (by simp) ?_)
          rfl
        · (repeat (first | ((with_reducible refine rgn_cons rfl (fun K hK => ?_)); simp only [go_sem, seval, ↓reduceIte, decide_true, decide_false, hbl, show ¬ (k : Int) ≤ (l.length : Int) - 1 by omega, decide_false]; (first | refine hK _ _ _ (by simp only [go_sem, Nat.reduceEqDiff, ↓reduceIte]; rfl) ?_ | refine ⟨_, hD, hK _ _ _ (by simp only [go_sem, Nat.reduceEqDiff, ↓reduceIte]; rfl) ?_⟩); clear hK; clear K) | (with_reducible first | refine rgn_nil (by first | trivial | kernel_rfl) ?_ | refine AWP.seq ?_ | refine tX hC hP (by kernel_rfl) ?_ | refine aX hC hM hP (by kernel_rfl) ?_ | refine AWP.skip ?_ | refine AWP.label ?_ | refine AWP.exit ?_ | refine AWP.block ?_ | refine cTa ?_ | refine cFa ?_) | simp only [qS, Nat.reduceEqDiff, ↓reduceIte]))
          (refine AWP.ret ?_; refine retOk2 (by simp only [go_sem, seval, ↓reduceIte, decide_true, decide_false]; rfl) (by simp only [go_sem, seval, ↓reduceIte, decide_true, decide_false]; rfl) (by simp) ?_)
          rfl
set_option maxHeartbeats 1000000 in
theorem c_impl_WittOfBig_no (p m n : Int) (l : List Int) (hl : l.length ≤ 1099511627776) (h : ¬ wobC p m l n = 0) : AFn Tryz.prog 25 [.int .i64 p, .agg [.int .i64 m, .sl false 2 (intL l)], .int .i64 n] (.tup [.agg [.int .i64 0, .int .i64 0, .nil], .int .i64 (wobC p m l n)]) := by
  refine AFn.of' ttOk (by decide) Tryz.func25 Tryz.ntmps25 (by rw [Tryz.results25]) (by rfl) (by rfl) (by simp) (by decide) (by simp only [go_sem, Nat.reduceAdd, ↓reduceIte]; rfl) mixed (fun C hP hM hC => ?_)
  cases hb : isBig m l with
  | false =>
    (repeat (first | ((with_reducible refine rgn_cons rfl (fun K hK => ?_)); simp only [go_sem, seval, ↓reduceIte, decide_true, decide_false, hb]; (first | refine hK _ _ _ (by simp only [go_sem, Nat.reduceEqDiff, ↓reduceIte]; rfl) ?_ | refine ⟨_, c_impl_IsBigVector m l hl, hK _ _ _ (by simp only [go_sem, Nat.reduceEqDiff, ↓reduceIte]; rfl) ?_⟩); clear hK; clear K) | (with_reducible first | refine rgn_nil (by first | trivial | kernel_rfl) ?_ | refine AWP.seq ?_ | refine tX hC hP (by kernel_rfl) ?_ | refine aX hC hM hP (by kernel_rfl) ?_ | refine AWP.skip ?_ | refine AWP.label ?_ | refine AWP.exit ?_ | refine AWP.block ?_ | refine cTa ?_ | refine cFa ?_) | simp only [qS, Nat.reduceEqDiff, ↓reduceIte]))
    (refine AWP.ret ?_; refine retOk2 (by simp only [go_sem, seval, ↓reduceIte, decide_true, decide_false]; rfl) (by simp only [go_sem, seval, ↓reduceIte, decide_true, decide_false]; rfl) (by simp) ?_)
    simp [wobC, hb]
  | true =>
    have hz := isBig_of hb
    have hD := c_impl_Series_degree m l hl
    cases ht : typB p with
    | false =>
      (repeat (first | ((with_reducible refine rgn_cons rfl (fun K hK => ?_)); simp only [go_sem, seval, ↓reduceIte, decide_true, decide_false, hb, ht]; (first | refine hK _ _ _ (by simp only [go_sem, Nat.reduceEqDiff, ↓reduceIte]; rfl) ?_ | refine ⟨_, c_impl_IsBigVector m l hl, hK _ _ _ (by simp only [go_sem, Nat.reduceEqDiff, ↓reduceIte]; rfl) ?_⟩ | refine ⟨_, c_impl_isTypicalPrime p, hK _ _ _ (by simp only [go_sem, Nat.reduceEqDiff, ↓reduceIte]; rfl) ?_⟩); clear hK; clear K) | (with_reducible first | refine rgn_nil (by first | trivial | kernel_rfl) ?_ | refine AWP.seq ?_ | refine tX hC hP (by kernel_rfl) ?_ | refine aX hC hM hP (by kernel_rfl) ?_ | refine AWP.skip ?_ | refine AWP.label ?_ | refine AWP.exit ?_ | refine AWP.block ?_ | refine cTa ?_ | refine cFa ?_) | simp only [qS, Nat.reduceEqDiff, ↓reduceIte]))
      (refine AWP.ret ?_; refine retOk2 (by simp only [go_sem, seval, ↓reduceIte, decide_true, decide_false]; rfl) (by simp only [go_sem, seval, ↓reduceIte, decide_true, decide_false]; rfl) (by simp) ?_)
      simp [wobC, hb, ht]
    | true =>
      have hp := typB_of ht
      have hpb := hp.1.b
      by_cases hn : 1 ≤ n ∧ n ≤ (l.length : Int) - 1
      · by_cases hr : n % p = 0
        · (repeat (first | ((with_reducible refine rgn_cons rfl (fun K hK => ?_)); simp only [go_sem, seval, ↓reduceIte, decide_true, decide_false, hb, ht, and_yes hn, show p ≠ 0 by omega, tm n p (by omega), hr, show ((0 : Int) == 0) = true from rfl]; (first | refine hK _ _ _ (by simp only [go_sem, Nat.reduceEqDiff, ↓reduceIte]; rfl) ?_ | refine ⟨_, c_impl_IsBigVector m l hl, hK _ _ _ (by simp only [go_sem, Nat.reduceEqDiff, ↓reduceIte]; rfl) ?_⟩ | refine ⟨_, c_impl_isTypicalPrime p, hK _ _ _ (by simp only [go_sem, Nat.reduceEqDiff, ↓reduceIte]; rfl) ?_⟩ | refine ⟨_, hD, hK _ _ _ (by simp only [go_sem, Nat.reduceEqDiff, ↓reduceIte]; rfl) ?_⟩ | refine ⟨_, c_impl_in _ _ _, hK _ _ _ (by simp only [go_sem, Nat.reduceEqDiff, ↓reduceIte]; rfl) ?_⟩); clear hK; clear K) | (with_reducible first | refine rgn_nil (by first | trivial | kernel_rfl) ?_ | refine AWP.seq ?_ | refine tX hC hP (by kernel_rfl) ?_ | refine aX hC hM hP (by kernel_rfl) ?_ | refine AWP.skip ?_ | refine AWP.label ?_ | refine AWP.exit ?_ | refine AWP.block ?_ | refine cTa ?_ | refine cFa ?_) | simp only [qS, Nat.reduceEqDiff, ↓reduceIte]))
          (refine AWP.ret ?_; refine retOk2 (by simp only [go_sem, seval, ↓reduceIte, decide_true, decide_false]; rfl) (by simp only [go_sem, seval, ↓reduceIte, decide_true, decide_false]; rfl) (by simp) ?_)
          simp [wobC, hb, hr]
        · cases hq : powB p.toNat m.toNat with
          | true => exact absurd (by simp only [wobC, hb, ht, hn, hr, pwC, hq, if_true, ne_eq, not_false_eq_true, and_self]) h
          | false =>
            (repeat (first | ((with_reducible refine rgn_cons rfl (fun K hK => ?_)); simp only [go_sem, seval, ↓reduceIte, decide_true, decide_false, hb, ht, hq, and_yes hn, show p ≠ 0 by omega, tm n p (by omega), show (n % p == 0) = false by simpa using hr]; (first | refine hK _ _ _ (by simp only [go_sem, Nat.reduceEqDiff, ↓reduceIte]; rfl) ?_ | refine ⟨_, c_impl_IsBigVector m l hl, hK _ _ _ (by simp only [go_sem, Nat.reduceEqDiff, ↓reduceIte]; rfl) ?_⟩ | refine ⟨_, c_impl_isTypicalPrime p, hK _ _ _ (by simp only [go_sem, Nat.reduceEqDiff, ↓reduceIte]; rfl) ?_⟩ | refine ⟨_, hD, hK _ _ _ (by simp only [go_sem, Nat.reduceEqDiff, ↓reduceIte]; rfl) ?_⟩ | refine ⟨_, c_impl_in _ _ _, hK _ _ _ (by simp only [go_sem, Nat.reduceEqDiff, ↓reduceIte]; rfl) ?_⟩ | refine ⟨_, c_impl_isPowerOf_i p m ht ⟨hz.1, hz.2.1⟩, hK _ _ _ (by simp only [go_sem, Nat.reduceEqDiff, ↓reduceIte]; rfl) ?_⟩); clear hK; clear K) | (with_reducible first | refine rgn_nil (by first | trivial | kernel_rfl) ?_ | refine AWP.seq ?_ | refine tX hC hP (by kernel_rfl) ?_ | refine aX hC hM hP (by kernel_rfl) ?_ | refine AWP.skip ?_ | refine AWP.label ?_ | refine AWP.exit ?_ | refine AWP.block ?_ | refine cTa ?_ | refine cFa ?_) | simp only [qS, Nat.reduceEqDiff, ↓reduceIte]))
            (refine AWP.ret ?_; refine retOk2 (by simp only [go_sem, seval, ↓reduceIte, decide_true, decide_false]; rfl) (by simp only [go_sem, seval, ↓reduceIte, decide_true, decide_false]; rfl) (by simp) ?_)
            simp [wobC, hb, ht, hn, hr, pwC, hq]
      · (repeat (first | ((with_reducible refine rgn_cons rfl (fun K hK => ?_)); simp only [go_sem, seval, ↓reduceIte, decide_true, decide_false, hb, ht, and_no hn]; (first | refine hK _ _ _ (by simp only [go_sem, Nat.reduceEqDiff, ↓reduceIte]; rfl) ?_ | refine ⟨_, c_impl_IsBigVector m l hl, hK _ _ _ (by simp only [go_sem, Nat.reduceEqDiff, ↓reduceIte]; rfl) ?_⟩ | refine ⟨_, c_impl_isTypicalPrime p, hK _ _ _ (by simp only [go_sem, Nat.reduceEqDiff, ↓reduceIte]; rfl) ?_⟩ | refine ⟨_, hD, hK _ _ _ (by simp only [go_sem, Nat.reduceEqDiff, ↓reduceIte]; rfl) ?_⟩ | refine ⟨_, c_impl_in _ _ _, hK _ _ _ (by simp only [go_sem, Nat.reduceEqDiff, ↓reduceIte]; rfl) ?_⟩); clear hK; clear K) | (with_reducible first | refine rgn_nil (by first | trivial | kernel_rfl) ?_ | refine AWP.seq ?_ | refine tX hC hP (by kernel_rfl) ?_ | refine aX hC hM hP (by kernel_rfl) ?_ | refine AWP.skip ?_ | refine AWP.label ?_ | refine AWP.exit ?_ | refine AWP.block ?_ | refine cTa ?_ | refine cFa ?_) | simp only [qS, Nat.reduceEqDiff, ↓reduceIte]))
        (refine AWP.ret ?_; refine retOk2 (by simp only [go_sem, seval, ↓reduceIte, decide_true, decide_false]; rfl) (by simp only [go_sem, seval, ↓reduceIte, decide_true, decide_false]; rfl) (by simp) ?_)
        simp only [wobC, hb, hn, if_true, false_and, and_false, if_false]
set_option maxHeartbeats 1000000 in
theorem c_spec_WittOfBig_no (p m n : Int) (l : List Int) (hl : l.length ≤ 1099511627776) (h : ¬ wobC p m l n = 0) : AFn Tryz.prog 26 [.int .i64 p, .agg [.int .i64 m, .sl false 2 (intL l)], .int .i64 n] (.tup [.agg [.int .i64 0, .int .i64 0, .nil], .int .i64 (wobC p m l n)]) := by
  refine AFn.of' ttOk (by decide) Tryz.func26 Tryz.ntmps26 (by rw [Tryz.results26]) (by rfl) (by rfl) (by simp) (by decide) (by simp only [go_sem, Nat.reduceAdd, ↓reduceIte]; rfl) mixed (fun C hP hM hC => ?_)
  have hB := c_spec_l15Big p m l hl
  cases hb : isBig m l with
  | false =>
    rw [show blkC p m l = 1 by simp [blkC, hb]] at hB
    (repeat (first | ((with_reducible refine rgn_cons rfl (fun K hK => ?_)); simp only [go_sem, seval, ↓reduceIte, decide_true, decide_false, show ((1 : Int) != 1) = false from rfl, show ((1 : Int) != 0) = true from rfl]; (first | refine hK _ _ _ (by simp only [go_sem, Nat.reduceEqDiff, ↓reduceIte]; rfl) ?_ | refine ⟨_, hB, hK _ _ _ (by simp only [go_sem, Nat.reduceEqDiff, ↓reduceIte]; rfl) ?_⟩); clear hK; clear K) | (with_reducible first | refine rgn_nil (by first | trivial | kernel_rfl) ?_ | refine AWP.seq ?_ | refine tX hC hP (by kernel_rfl) ?_ | refine aX hC hM hP (by kernel_rfl) ?_ | refine AWP.skip ?_ | refine AWP.label ?_ | refine AWP.exit ?_ | refine AWP.block ?_ | refine cTa ?_ | refine cFa ?_) | simp only [qS, Nat.reduceEqDiff, ↓reduceIte]))
    (refine AWP.ret ?_; refine retOk2 (by simp only [go_sem, seval, ↓reduceIte, decide_true, decide_false]; rfl) (by simp only [go_sem, seval, ↓reduceIte, decide_true, decide_false]; rfl) (by simp) ?_)
    simp [wobC, hb]
  | true =>
    have hz := isBig_of hb
    have hw := wid ((l.length : Int) - 1) (by omega) (by omega)
    cases ht : typB p with
    | false =>
      rw [show blkC p m l = 2 by simp [blkC, hb, ht]] at hB
      (repeat (first | ((with_reducible refine rgn_cons rfl (fun K hK => ?_)); simp only [go_sem, seval, ↓reduceIte, decide_true, decide_false, ht, show ((2 : Int) != 1) = true from rfl, show ((2 : Int) != 0) = true from rfl]; (first | refine hK _ _ _ (by simp only [go_sem, Nat.reduceEqDiff, ↓reduceIte]; rfl) ?_ | refine ⟨_, hB, hK _ _ _ (by simp only [go_sem, Nat.reduceEqDiff, ↓reduceIte]; rfl) ?_⟩ | refine ⟨_, c_spec_l09Prime p, hK _ _ _ (by simp only [go_sem, Nat.reduceEqDiff, ↓reduceIte]; rfl) ?_⟩); clear hK; clear K) | (with_reducible first | refine rgn_nil (by first | trivial | kernel_rfl) ?_ | refine AWP.seq ?_ | refine tX hC hP (by kernel_rfl) ?_ | refine aX hC hM hP (by kernel_rfl) ?_ | refine AWP.skip ?_ | refine AWP.label ?_ | refine AWP.exit ?_ | refine AWP.block ?_ | refine cTa ?_ | refine cFa ?_) | simp only [qS, Nat.reduceEqDiff, ↓reduceIte]))
      (refine AWP.ret ?_; refine retOk2 (by simp only [go_sem, seval, ↓reduceIte, decide_true, decide_false]; rfl) (by simp only [go_sem, seval, ↓reduceIte, decide_true, decide_false]; rfl) (by simp) ?_)
      simp [wobC, hb, ht]
    | true =>
      have hp := typB_of ht
      have hpb := hp.1.b
      have hne : (blkC p m l != 1) = true := by
        simp only [blkC, hb, ht, if_true, pwC]; split <;> rfl
      by_cases hn : 1 ≤ n ∧ n ≤ (l.length : Int) - 1
      · by_cases hr : n % p = 0
        · (repeat (first | ((with_reducible refine rgn_cons rfl (fun K hK => ?_)); simp only [go_sem, seval, ↓reduceIte, decide_true, decide_false, hne, ht, hw, and_yes hn, show p ≠ 0 by omega, tm n p (by omega), hr, show ((0 : Int) == 0) = true from rfl, show ((2 : Int) != 0) = true from rfl]; (first | refine hK _ _ _ (by simp only [go_sem, Nat.reduceEqDiff, ↓reduceIte]; rfl) ?_ | refine ⟨_, hB, hK _ _ _ (by simp only [go_sem, Nat.reduceEqDiff, ↓reduceIte]; rfl) ?_⟩ | refine ⟨_, c_spec_l09Prime p, hK _ _ _ (by simp only [go_sem, Nat.reduceEqDiff, ↓reduceIte]; rfl) ?_⟩ | refine ⟨_, c_spec_l01In _ _ _, hK _ _ _ (by simp only [go_sem, Nat.reduceEqDiff, ↓reduceIte]; rfl) ?_⟩); clear hK; clear K) | (with_reducible first | refine rgn_nil (by first | trivial | kernel_rfl) ?_ | refine AWP.seq ?_ | refine tX hC hP (by kernel_rfl) ?_ | refine aX hC hM hP (by kernel_rfl) ?_ | refine AWP.skip ?_ | refine AWP.label ?_ | refine AWP.exit ?_ | refine AWP.block ?_ | refine cTa ?_ | refine cFa ?_) | simp only [qS, Nat.reduceEqDiff, ↓reduceIte]))
          (refine AWP.ret ?_; refine retOk2 (by simp only [go_sem, seval, ↓reduceIte, decide_true, decide_false]; rfl) (by simp only [go_sem, seval, ↓reduceIte, decide_true, decide_false]; rfl) (by simp) ?_)
          simp [wobC, hb, hr]
        · cases hq : powB p.toNat m.toNat with
          | true => exact absurd (by simp only [wobC, hb, ht, hn, hr, pwC, hq, if_true, ne_eq, not_false_eq_true, and_self]) h
          | false =>
            rw [show blkC p m l = 5 by simp [blkC, hb, ht, pwC, hq]] at hB
            (repeat (first | ((with_reducible refine rgn_cons rfl (fun K hK => ?_)); simp only [go_sem, seval, ↓reduceIte, decide_true, decide_false, show ((5 : Int) != 1) = true from rfl, show ((5 : Int) != 0) = true from rfl, ht, hw, and_yes hn, show p ≠ 0 by omega, tm n p (by omega), show (n % p == 0) = false by simpa using hr]; (first | refine hK _ _ _ (by simp only [go_sem, Nat.reduceEqDiff, ↓reduceIte]; rfl) ?_ | refine ⟨_, hB, hK _ _ _ (by simp only [go_sem, Nat.reduceEqDiff, ↓reduceIte]; rfl) ?_⟩ | refine ⟨_, c_spec_l09Prime p, hK _ _ _ (by simp only [go_sem, Nat.reduceEqDiff, ↓reduceIte]; rfl) ?_⟩ | refine ⟨_, c_spec_l01In _ _ _, hK _ _ _ (by simp only [go_sem, Nat.reduceEqDiff, ↓reduceIte]; rfl) ?_⟩); clear hK; clear K) | (with_reducible first | refine rgn_nil (by first | trivial | kernel_rfl) ?_ | refine AWP.seq ?_ | refine tX hC hP (by kernel_rfl) ?_ | refine aX hC hM hP (by kernel_rfl) ?_ | refine AWP.skip ?_ | refine AWP.label ?_ | refine AWP.exit ?_ | refine AWP.block ?_ | refine cTa ?_ | refine cFa ?_) | simp only [qS, Nat.reduceEqDiff, ↓reduceIte]))
            (refine AWP.ret ?_; refine retOk2 (by simp only [go_sem, seval, ↓reduceIte, decide_true, decide_false]; rfl) (by simp only [go_sem, seval, ↓reduceIte, decide_true, decide_false]; rfl) (by simp) ?_)
            simp [wobC, hb, ht, hn, hr, pwC, hq]
      · (repeat (first | ((with_reducible refine rgn_cons rfl (fun K hK => ?_)); simp only [go_sem, seval, ↓reduceIte, decide_true, decide_false, hne, ht, hw, and_no hn, show ((2 : Int) != 0) = true from rfl]; (first | refine hK _ _ _ (by simp only [go_sem, Nat.reduceEqDiff, ↓reduceIte]; rfl) ?_ | refine ⟨_, hB, hK _ _ _ (by simp only [go_sem, Nat.reduceEqDiff, ↓reduceIte]; rfl) ?_⟩ | refine ⟨_, c_spec_l09Prime p, hK _ _ _ (by simp only [go_sem, Nat.reduceEqDiff, ↓reduceIte]; rfl) ?_⟩ | refine ⟨_, c_spec_l01In _ _ _, hK _ _ _ (by simp only [go_sem, Nat.reduceEqDiff, ↓reduceIte]; rfl) ?_⟩); clear hK; clear K) | (with_reducible first | refine rgn_nil (by first | trivial | kernel_rfl) ?_ | refine AWP.seq ?_ | refine tX hC hP (by kernel_rfl) ?_ | refine aX hC hM hP (by kernel_rfl) ?_ | refine AWP.skip ?_ | refine AWP.label ?_ | refine AWP.exit ?_ | refine AWP.block ?_ | refine cTa ?_ | refine cFa ?_) | simp only [qS, Nat.reduceEqDiff, ↓reduceIte]))
        (refine AWP.ret ?_; refine retOk2 (by simp only [go_sem, seval, ↓reduceIte, decide_true, decide_false]; rfl) (by simp only [go_sem, seval, ↓reduceIte, decide_true, decide_false]; rfl) (by simp) ?_)
        simp only [wobC, hb, hn, if_true, false_and, and_false, if_false]

end Go.Proofs.YtdnaecmcbkfpaaaGreat
