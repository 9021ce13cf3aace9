/-
  Sums of Witt vectors in the program.
-/
import Derived.Test.YtdnaecmcbkfpaaaGreatAv
import Derived.Test.YtdnaecmcbkfpaaaGreatHn
import Derived.Test.YtdnaecmcbkfpaaaGreatHl
import Derived.Test.YtdnaecmcbkfpaaaGreatLd
namespace Go.Proofs.YtdnaecmcbkfpaaaGreat
open Go.RowKit
set_option linter.unusedSimpArgs false
set_option linter.unusedVariables false
set_option linter.unusedSectionVars false
set_option maxRecDepth 20000
-- Sums of Witt vectors in the program.
set_option maxHeartbeats 1000000 in
theorem c_impl_power_w (m a : Int) (k : Nat) (hm : 0 < m) (hm2 : m ≤ 3000000000) (ha : 0 ≤ a) (ha2 : a < m) (hk : k ≤ 1000000000000) : AFn Tryz.prog 103 [.int .i64 m, .int .i64 a, .int .i64 k] (.int .i64 (a ^ k % m)) := by
  refine AFn.of' ttOk (by decide) Tryz.func103 Tryz.ntmps103 (by rw [Tryz.results103]) (by rfl) (by rfl) (by simp) (by decide) (by simp only [go_sem, Nat.reduceAdd, ↓reduceIte]; rfl) mixed (fun C hP hM hC => ?_)
  have h1 := emod_b 1 m hm
  (repeat (first | ((with_reducible refine rgn_cons rfl (fun K hK => ?_)); simp only [go_sem, seval, ↓reduceIte, decide_true, decide_false, show m ≠ 0 by omega, tm 1 m (by omega)]; (refine hK _ _ _ (by simp only [go_sem, Nat.reduceEqDiff, ↓reduceIte]; rfl) ?_); clear hK; clear K) | (with_reducible first | refine rgn_nil (by first | trivial | kernel_rfl) ?_ | refine AWP.seq ?_ | refine tX hC hP (by kernel_rfl) ?_ | refine aX hC hM hP (by kernel_rfl) ?_ | refine AWP.skip ?_ | refine AWP.label ?_ | refine AWP.exit ?_ | refine AWP.block ?_ | refine cTa ?_ | refine cFa ?_) | simp only [qS, Nat.reduceEqDiff, ↓reduceIte]))
  refine AWP.loop (fun w : Nat × Int × Int => [(2, ⟨0, .val (.int .i64 w.1)⟩), (7, ⟨0, .val (.int .i64 w.2.1)⟩), (1, ⟨0, .val (.int .i64 w.2.2)⟩), (0, ⟨0, .val (.int .i64 m)⟩)]) (fun w => w.1 ≤ k ∧ (0 ≤ w.2.1 ∧ w.2.1 < m) ∧ (0 ≤ w.2.2 ∧ w.2.2 < m) ∧ w.2.1 * w.2.2 ^ w.1 % m = a ^ k % m) (fun w => w.1) (k, 1 % m, a) ⟨Nat.le_refl _, h1, ⟨ha, ha2⟩, by rw [mul_emod_l, Int.one_mul]⟩ (fun i => rfl) ?_ (fun w hw => ?_)
  · simp [Sub, lk]
  · obtain ⟨j, o, b⟩ := w
    simp only at hw ⊢
    obtain ⟨hj, ho, hb, hE⟩ := hw
    by_cases hs : 0 < j
    · have hs' : (0 : Int) < (j : Int) := by omega
      by_cases ho2 : j % 2 = 1
      · (repeat (first | ((with_reducible refine rgn_cons rfl (fun K hK => ?_)); simp only [go_sem, seval, ↓reduceIte, decide_true, decide_false, hs', nat_tmod2, nat_tdiv2, ho2, Int.cast_ofNat_Int, show (2 : Int) ≠ 0 by omega, wid ((j / 2 : Nat) : Int) (by omega) (by omega)]; (first | refine hK _ _ _ (by simp only [go_sem, Nat.reduceEqDiff, ↓reduceIte]; rfl) ?_ | refine ⟨_, c_impl_mul m o b hm (by omega) ho.1 ho.2 hb.1 hb.2, hK _ _ _ (by simp only [go_sem, Nat.reduceEqDiff, ↓reduceIte]; rfl) ?_⟩ | refine ⟨_, c_impl_mul m b b hm (by omega) hb.1 hb.2 hb.1 hb.2, hK _ _ _ (by simp only [go_sem, Nat.reduceEqDiff, ↓reduceIte]; rfl) ?_⟩); clear hK; clear K) | (with_reducible first | refine rgn_nil (by first | trivial | kernel_rfl) ?_ | refine AWP.seq ?_ | refine tX hC hP (by kernel_rfl) ?_ | refine aX hC hM hP (by kernel_rfl) ?_ | refine AWP.skip ?_ | refine AWP.label ?_ | refine AWP.exit ?_ | refine AWP.block ?_ | refine cTa ?_ | refine cFa ?_) | simp only [qS, Nat.reduceEqDiff, ↓reduceIte]))
        exact ⟨(j / 2, o * b % m, b * b % m), ⟨by simp only; omega, emod_b _ m hm, emod_b _ m hm, by rw [← hE]; exact pw_odd o b m j ho2⟩, by simp only; omega, by simp [Sub, lk]⟩
      · have ho3 : j % 2 = 0 := by omega
        (repeat (first | ((with_reducible refine rgn_cons rfl (fun K hK => ?_)); simp only [go_sem, seval, ↓reduceIte, decide_true, decide_false, hs', nat_tmod2, nat_tdiv2, ho3, Int.cast_ofNat_Int, Int.natCast_zero, show (2 : Int) ≠ 0 by omega, wid ((j / 2 : Nat) : Int) (by omega) (by omega)]; (first | refine hK _ _ _ (by simp only [go_sem, Nat.reduceEqDiff, ↓reduceIte]; rfl) ?_ | refine ⟨_, c_impl_mul m b b hm (by omega) hb.1 hb.2 hb.1 hb.2, hK _ _ _ (by simp only [go_sem, Nat.reduceEqDiff, ↓reduceIte]; rfl) ?_⟩); clear hK; clear K) | (with_reducible first | refine rgn_nil (by first | trivial | kernel_rfl) ?_ | refine AWP.seq ?_ | refine tX hC hP (by kernel_rfl) ?_ | refine aX hC hM hP (by kernel_rfl) ?_ | refine AWP.skip ?_ | refine AWP.label ?_ | refine AWP.exit ?_ | refine AWP.block ?_ | refine cTa ?_ | refine cFa ?_) | simp only [qS, Nat.reduceEqDiff, ↓reduceIte]))
        exact ⟨(j / 2, o, b * b % m), ⟨by simp only; omega, ho, emod_b _ m hm, by rw [← hE]; exact pw_even o b m j ho3⟩, by simp only; omega, by simp [Sub, lk]⟩
    · have hj0 : j = 0 := by omega
      subst hj0
      (repeat (first | ((with_reducible refine rgn_cons rfl (fun K hK => ?_)); simp only [go_sem, seval, ↓reduceIte, decide_true, decide_false, show ¬ (0 : Int) < ((0 : Nat) : Int) by omega, Int.natCast_zero, decide_false]; (refine hK _ _ _ (by simp only [go_sem, Nat.reduceEqDiff, ↓reduceIte]; rfl) ?_); clear hK; clear K) | (with_reducible first | refine rgn_nil (by first | trivial | kernel_rfl) ?_ | refine AWP.seq ?_ | refine tX hC hP (by kernel_rfl) ?_ | refine aX hC hM hP (by kernel_rfl) ?_ | refine AWP.skip ?_ | refine AWP.label ?_ | refine AWP.exit ?_ | refine AWP.block ?_ | refine cTa ?_ | refine cFa ?_) | simp only [qS, Nat.reduceEqDiff, ↓reduceIte]))
      (refine AWP.ret ?_; refine retOk1 (by simp only [go_sem, seval, ↓reduceIte, decide_true, decide_false]; rfl) ?_)
      rw [← hE, Int.pow_zero, Int.mul_one, Int.emod_eq_of_lt ho.1 ho.2]
set_option maxHeartbeats 1000000 in
theorem c_impl_AddWitt_1 (x y : Int) (hx : 0 ≤ x ∧ x < 3000000000) (hy : 0 ≤ y ∧ y < 3000000000) : AFn Tryz.prog 61 [.int .i64 x, .int .i64 y] (.int .i64 (x + y)) := by
  refine AFn.of' ttOk (by decide) Tryz.func61 Tryz.ntmps61 (by rw [Tryz.results61]) (by rfl) (by rfl) (by simp) (by decide) (by simp only [go_sem, Nat.reduceAdd, ↓reduceIte]; rfl) mixed (fun C hP hM hC => ?_)
  (repeat (first | ((with_reducible refine rgn_cons rfl (fun K hK => ?_)); simp only [go_sem, seval, ↓reduceIte, decide_true, decide_false, wid (x + y) (by omega) (by omega)]; (refine hK _ _ _ (by simp only [go_sem, Nat.reduceEqDiff, ↓reduceIte]; rfl) ?_); clear hK; clear K) | (with_reducible first | refine rgn_nil (by first | trivial | kernel_rfl) ?_ | refine AWP.seq ?_ | refine tX hC hP (by kernel_rfl) ?_ | refine aX hC hM hP (by kernel_rfl) ?_ | refine AWP.skip ?_ | refine AWP.label ?_ | refine AWP.exit ?_ | refine AWP.block ?_ | refine cTa ?_ | refine cFa ?_) | simp only [qS, Nat.reduceEqDiff, ↓reduceIte]))
  (refine AWP.ret ?_; refine retOk1 (by simp only [go_sem, seval, ↓reduceIte, decide_true, decide_false]; rfl) ?_)
  rfl
set_option maxHeartbeats 1000000 in
theorem c_impl_Witt_wide (p : Nat) (m w : Int) (l : List Int) (hp : p ≤ 7) (hm : 0 < m) (hm2 : m ≤ 10000) (hw : m * ((p ^ 4 : Nat) : Int) = w) (hw1 : 0 ≤ w) (hw2 : w ≤ 24010000) : AFn Tryz.prog 87 [.agg [.int .i64 p, .int .i64 m, .sl false 2 (intL l)]] (.int .i64 w) := by
  refine AFn.of' ttOk (by decide) Tryz.func87 Tryz.ntmps87 (by rw [Tryz.results87]) (by rfl) (by rfl) (by simp) (by decide) (by simp only [go_sem, Nat.reduceAdd, ↓reduceIte]; rfl) mixed (fun C hP hM hC => ?_)
  (repeat (first | ((with_reducible refine rgn_cons rfl (fun K hK => ?_)); simp only [go_sem, seval, ↓reduceIte, decide_true, decide_false, hw, wid w (by omega) (by omega)]; (first | refine hK _ _ _ (by simp only [go_sem, Nat.reduceEqDiff, ↓reduceIte]; rfl) ?_ | refine ⟨_, c_impl_scale p 4 hp (by omega), hK _ _ _ (by simp only [go_sem, Nat.reduceEqDiff, ↓reduceIte]; rfl) ?_⟩); clear hK; clear K) | (with_reducible first | refine rgn_nil (by first | trivial | kernel_rfl) ?_ | refine AWP.seq ?_ | refine tX hC hP (by kernel_rfl) ?_ | refine aX hC hM hP (by kernel_rfl) ?_ | refine AWP.skip ?_ | refine AWP.label ?_ | refine AWP.exit ?_ | refine AWP.block ?_ | refine cTa ?_ | refine cFa ?_) | simp only [qS, Nat.reduceEqDiff, ↓reduceIte]))
  (refine AWP.ret ?_; refine retOk1 (by simp only [go_sem, seval, ↓reduceIte, decide_true, decide_false]; rfl) ?_)
  rfl
/-- A ghost component's first summands. -/
def ghA (p : Nat) (l : List Int) (w : Int) (k i : Nat) : Int := sm i (fun t => (p : Int) ^ t * at' l t ^ (p ^ (k - t))) % w
theorem ghA_next {p : Nat} {l : List Int} {w : Int} {k i : Nat} : (ghA p l w k i + (((p ^ i : Nat) : Int) % w) * ((at' l i % w) ^ (p ^ (k - i)) % w) % w) % w = ghA p l w k (i + 1) := by
  unfold ghA
  rw [sm, Int.emod_add_emod, mul_emod_l, mul_emod_r, Int.add_emod_emod, Int.natCast_pow]
  refine emod_add_congr rfl ?_
  rw [← mul_emod_r, pow_emod_l, mul_emod_r]
set_option maxHeartbeats 1000000 in
theorem c_impl_ghost (p k : Nat) (w : Int) (l : List Int) (hp1 : 2 ≤ p) (hp2 : p ≤ 7) (hk : k < 4) (hw : 0 < w) (hw2 : w ≤ 3000000000) (hkl : k < l.length) (hl : l.length ≤ 1000) (hx : ∀ x ∈ l, 0 ≤ x ∧ x < 10000) : AFn Tryz.prog 102 [.int .i64 w, .int .i64 p, .sl false 2 (intL l), .int .i64 k] (.int .i64 (ghI p (at' l) k % w)) := by
  refine AFn.of' ttOk (by decide) Tryz.func102 Tryz.ntmps102 (by rw [Tryz.results102]) (by rfl) (by rfl) (by simp) (by decide) (by simp only [go_sem, Nat.reduceAdd, ↓reduceIte]; rfl) mixed (fun C hP hM hC => ?_)
  (repeat (first | ((with_reducible refine rgn_cons rfl (fun K hK => ?_)); simp only [go_sem, seval, ↓reduceIte, decide_true, decide_false]; (refine hK _ _ _ (by simp only [go_sem, Nat.reduceEqDiff, ↓reduceIte]; rfl) ?_); clear hK; clear K) | (with_reducible first | refine rgn_nil (by first | trivial | kernel_rfl) ?_ | refine AWP.seq ?_ | refine tX hC hP (by kernel_rfl) ?_ | refine aX hC hM hP (by kernel_rfl) ?_ | refine AWP.skip ?_ | refine AWP.label ?_ | refine AWP.exit ?_ | refine AWP.block ?_ | refine cTa ?_ | refine cFa ?_) | simp only [qS, Nat.reduceEqDiff, ↓reduceIte]))
  refine AWP.loop (fun i : Nat => [(10, ⟨0, .val (.int .i64 i)⟩), (9, ⟨0, .val (.int .i64 (ghA p l w k i))⟩), (0, ⟨0, .val (.int .i64 w)⟩), (1, ⟨0, .val (.int .i64 p)⟩), (2, ⟨0, .val (.sl false 2 (intL l))⟩), (3, ⟨0, .val (.int .i64 k)⟩)]) (fun i => i ≤ k + 1) (fun i => k + 1 - i) 0 (Nat.zero_le _) (fun i => rfl) ?_ (fun i hi => ?_)
  · simp [Sub, lk, ghA, sm]
  · by_cases hlt : i ≤ k
    · have hxi := at_bound hx (by omega) i
      have hil : i < l.length := by omega
      have u1 : IntKind.i64.wrap ((k : Int) - (i : Int)) = ((k - i : Nat) : Int) := by rw [wid _ (by omega) (by omega)]; omega
      have hb1 : p ^ (k - i) ≤ 16807 := pow_len hp2 (by omega)
      have e1 := emod_b (at' l i) w hw
      have e2 := emod_b ((p ^ i : Nat) : Int) w hw
      have e3 := emod_b ((at' l i % w) ^ (p ^ (k - i))) w hw
      have e4 := emod_b (((p ^ i : Nat) : Int) % w * ((at' l i % w) ^ (p ^ (k - i)) % w)) w hw
      have e5 : 0 ≤ ghA p l w k i ∧ ghA p l w k i < w := emod_b _ w hw
      have hC1 := c_impl_scale p i hp2 (by omega)
      have hC2 := c_impl_scale p (k - i) hp2 (by omega)
      have hC3 := c_impl_power_w w (at' l i % w) (p ^ (k - i)) hw hw2 e1.1 e1.2 (by omega)
      have hC4 := c_impl_mul w (((p ^ i : Nat) : Int) % w) ((at' l i % w) ^ (p ^ (k - i)) % w) hw hw2 e2.1 e2.2 e3.1 e3.2
      have hE := ghA_next (p := p) (l := l) (w := w) (k := k) (i := i)
      (repeat (first | ((with_reducible refine rgn_cons rfl (fun K hK => ?_)); simp only [go_sem, seval, ↓reduceIte, decide_true, decide_false, show (i : Int) ≤ (k : Int) by omega, decide_true, u1, Int.toNat_natCast, Int.natCast_nonneg, show (i : Int) < (l.length : Int) by omega, intL_getD l i hil, show l.getD i 0 = at' l i from rfl, tm ((p ^ i : Nat) : Int) w (by omega), tm (at' l i) w hxi.1, show w ≠ 0 by omega, wid (ghA p l w k i + ((p ^ i : Nat) : Int) % w * ((at' l i % w) ^ (p ^ (k - i)) % w) % w) (by omega) (by omega), tm (ghA p l w k i + ((p ^ i : Nat) : Int) % w * ((at' l i % w) ^ (p ^ (k - i)) % w) % w) w (by omega), hE, wid ((i : Int) + 1) (by omega) (by omega)]; (first | refine hK _ _ _ (by simp only [go_sem, Nat.reduceEqDiff, ↓reduceIte]; rfl) ?_ | refine ⟨_, hC1, hK _ _ _ (by simp only [go_sem, Nat.reduceEqDiff, ↓reduceIte]; rfl) ?_⟩ | refine ⟨_, hC2, hK _ _ _ (by simp only [go_sem, Nat.reduceEqDiff, ↓reduceIte]; rfl) ?_⟩ | refine ⟨_, hC3, hK _ _ _ (by simp only [go_sem, Nat.reduceEqDiff, ↓reduceIte]; rfl) ?_⟩ | refine ⟨_, hC4, hK _ _ _ (by simp only [go_sem, Nat.reduceEqDiff, ↓reduceIte]; rfl) ?_⟩); clear hK; clear K) | (with_reducible first | refine rgn_nil (by first | trivial | kernel_rfl) ?_ | refine AWP.seq ?_ | refine tX hC hP (by kernel_rfl) ?_ | refine aX hC hM hP (by kernel_rfl) ?_ | refine AWP.skip ?_ | refine AWP.label ?_ | refine AWP.exit ?_ | refine AWP.block ?_ | refine cTa ?_ | refine cFa ?_) | simp only [qS, Nat.reduceEqDiff, ↓reduceIte]))
      exact ⟨i + 1, by omega, by omega, by simp [Sub, lk]⟩
    · (repeat (first | ((with_reducible refine rgn_cons rfl (fun K hK => ?_)); simp only [go_sem, seval, ↓reduceIte, decide_true, decide_false, show ¬ (i : Int) ≤ (k : Int) by omega, decide_false]; (refine hK _ _ _ (by simp only [go_sem, Nat.reduceEqDiff, ↓reduceIte]; rfl) ?_); clear hK; clear K) | (with_reducible first | refine rgn_nil (by first | trivial | kernel_rfl) ?_ | refine AWP.seq ?_ | refine tX hC hP (by kernel_rfl) ?_ | refine aX hC hM hP (by kernel_rfl) ?_ | refine AWP.skip ?_ | refine AWP.label ?_ | refine AWP.exit ?_ | refine AWP.block ?_ | refine cTa ?_ | refine cFa ?_) | simp only [qS, Nat.reduceEqDiff, ↓reduceIte]))
      (refine AWP.ret ?_; refine retOk1 (by simp only [go_sem, seval, ↓reduceIte, decide_true, decide_false]; rfl) ?_)
      rw [show i = k + 1 by omega]; rfl
set_option maxHeartbeats 1000000 in
theorem c_impl_Witt_ghosts (p : Nat) (m w : Int) (l : List Int) (hp1 : 2 ≤ p) (hp2 : p ≤ 7) (hl : l.length ≤ 4) (hw : 0 < w) (hw2 : w ≤ 3000000000) (hx : ∀ x ∈ l, 0 ≤ x ∧ x < 10000) : AFn Tryz.prog 88 [.agg [.int .i64 p, .int .i64 m, .sl false 2 (intL l)], .int .i64 w] (.sl true 2 (intL (tab l.length (fun k => ghI p (at' l) k % w)))) := by
  refine AFn.of' ttOk (by decide) Tryz.func88 Tryz.ntmps88 (by rw [Tryz.results88]) (by rfl) (by rfl) (by simp) (by decide) (by simp only [go_sem, Nat.reduceAdd, ↓reduceIte]; rfl) mixed (fun C hP hM hC => ?_)
  (repeat (first | ((with_reducible refine rgn_cons rfl (fun K hK => ?_)); simp only [go_sem, seval, ↓reduceIte, decide_true, decide_false]; (refine hK _ _ _ (by simp only [go_sem, Nat.reduceEqDiff, ↓reduceIte]; rfl) ?_); clear hK; clear K) | (with_reducible first | refine rgn_nil (by first | trivial | kernel_rfl) ?_ | refine AWP.seq ?_ | refine tX hC hP (by kernel_rfl) ?_ | refine aX hC hM hP (by kernel_rfl) ?_ | refine AWP.skip ?_ | refine AWP.label ?_ | refine AWP.exit ?_ | refine AWP.block ?_ | refine cTa ?_ | refine cFa ?_) | simp only [qS, Nat.reduceEqDiff, ↓reduceIte]))
  refine AWP.loop (fun x : Nat × Nat => [(11, ⟨0, .val (.int .i64 x.1)⟩), (10, ⟨0, .val (.int .i64 l.length)⟩), (5, ⟨x.2, .own (.sl true 2 (intL (tab x.1 (fun k => ghI p (at' l) k % w))))⟩), (1, ⟨0, .val (.int .i64 w)⟩), (2, ⟨1, .own (.box 42 (.agg [.int .i64 p, .int .i64 m, .sl false 2 (intL l)]))⟩)]) (fun x => x.1 ≤ l.length) (fun x => l.length - x.1) (0, 1) (Nat.zero_le _) (fun i => rfl) ?_ (fun x hi => ?_)
  · simp [Sub, lk, tab_nil, intL]
  · obtain ⟨i, v⟩ := x
    simp only at hi ⊢
    by_cases hlt : i < l.length
    · have hG := c_impl_ghost p i w l hp1 hp2 (by omega) hw hw2 hlt (by omega) hx
      have hsn : tab i (fun k => ghI p (at' l) k % w) ++ [ghI p (at' l) i % w] = tab (i + 1) (fun k => ghI p (at' l) k % w) := tab_succ _ _
      (repeat (first | ((with_reducible refine rgn_cons rfl (fun K hK => ?_)); simp only [go_sem, seval, ↓reduceIte, decide_true, decide_false, show (i : Int) < (l.length : Int) by omega, decide_true, tab_length, intL_snoc, hsn, show i + 1 ≤ 1099511627776 by omega, show (i + 1) * 8 ≤ 140737488355328 by omega, wid ((i : Int) + 1) (by omega) (by omega)]; (first | refine hK _ _ _ (by simp only [go_sem, Nat.reduceEqDiff, ↓reduceIte]; rfl) ?_ | refine ⟨_, hG, hK _ _ _ (by simp only [go_sem, Nat.reduceEqDiff, ↓reduceIte]; rfl) ?_⟩); clear hK; clear K) | (with_reducible first | refine rgn_nil (by first | trivial | kernel_rfl) ?_ | refine AWP.seq ?_ | refine tX hC hP (by kernel_rfl) ?_ | refine aX hC hM hP (by kernel_rfl) ?_ | refine AWP.skip ?_ | refine AWP.label ?_ | refine AWP.exit ?_ | refine AWP.block ?_ | refine cTa ?_ | refine cFa ?_) | simp only [qS, Nat.reduceEqDiff, ↓reduceIte]))
      exact ⟨(i + 1, v + 1), by simp only; omega, by simp only; omega, by simp [Sub, lk]⟩
    · (repeat (first | ((with_reducible refine rgn_cons rfl (fun K hK => ?_)); simp only [go_sem, seval, ↓reduceIte, decide_true, decide_false, show ¬ (i : Int) < (l.length : Int) by omega, decide_false]; (refine hK _ _ _ (by simp only [go_sem, Nat.reduceEqDiff, ↓reduceIte]; rfl) ?_); clear hK; clear K) | (with_reducible first | refine rgn_nil (by first | trivial | kernel_rfl) ?_ | refine AWP.seq ?_ | refine tX hC hP (by kernel_rfl) ?_ | refine aX hC hM hP (by kernel_rfl) ?_ | refine AWP.skip ?_ | refine AWP.label ?_ | refine AWP.exit ?_ | refine AWP.block ?_ | refine cTa ?_ | refine cFa ?_) | simp only [qS, Nat.reduceEqDiff, ↓reduceIte]))
      (refine AWP.ret ?_; refine retOk1 (by simp only [go_sem, seval, ↓reduceIte, decide_true, decide_false]; rfl) ?_)
      rw [show i = l.length by omega]
set_option maxHeartbeats 1000000 in
theorem c_impl_remainders_w (m : Int) (l : List Int) (hm : 0 < m) (hl : l.length ≤ 1000) (hx : ∀ x ∈ l, 0 ≤ x) : AFn Tryz.prog 104 [.sl false 2 (intL l), .int .i64 m] (.sl true 2 (intL (tab l.length (fun i => at' l i % m)))) := by
  refine AFn.of' ttOk (by decide) Tryz.func104 Tryz.ntmps104 (by rw [Tryz.results104]) (by rfl) (by rfl) (by simp) (by decide) (by simp only [go_sem, Nat.reduceAdd, ↓reduceIte]; rfl) mixed (fun C hP hM hC => ?_)
  (repeat (first | ((with_reducible refine rgn_cons rfl (fun K hK => ?_)); simp only [go_sem, seval, ↓reduceIte, decide_true, decide_false]; (refine hK _ _ _ (by simp only [go_sem, Nat.reduceEqDiff, ↓reduceIte]; rfl) ?_); clear hK; clear K) | (with_reducible first | refine rgn_nil (by first | trivial | kernel_rfl) ?_ | refine AWP.seq ?_ | refine tX hC hP (by kernel_rfl) ?_ | refine aX hC hM hP (by kernel_rfl) ?_ | refine AWP.skip ?_ | refine AWP.label ?_ | refine AWP.exit ?_ | refine AWP.block ?_ | refine cTa ?_ | refine cFa ?_) | simp only [qS, Nat.reduceEqDiff, ↓reduceIte]))
  refine AWP.loop (fun x : Nat × Nat => [(11, ⟨0, .val (.int .i64 x.1)⟩), (10, ⟨0, .val (.int .i64 l.length)⟩), (9, ⟨0, .val (.sl false 2 (intL l))⟩), (5, ⟨x.2, .own (.sl true 2 (intL (tab x.1 (fun i => at' l i % m))))⟩), (1, ⟨0, .val (.int .i64 m)⟩)]) (fun x => x.1 ≤ l.length) (fun x => l.length - x.1) (0, 1) (Nat.zero_le _) (fun i => rfl) ?_ (fun x hi => ?_)
  · simp [Sub, lk, tab_nil, intL]
  · obtain ⟨i, v⟩ := x
    simp only at hi ⊢
    by_cases hlt : i < l.length
    · have hxi : 0 ≤ at' l i := by
        rw [at', List.getD_eq_getElem?_getD, List.getElem?_eq_getElem hlt]
        exact hx _ (List.getElem_mem hlt)
      have hsn : tab i (fun i => at' l i % m) ++ [at' l i % m] = tab (i + 1) (fun i => at' l i % m) := tab_succ _ _
      (repeat (first | ((with_reducible refine rgn_cons rfl (fun K hK => ?_)); simp only [go_sem, seval, ↓reduceIte, decide_true, decide_false, show (i : Int) < (l.length : Int) by omega, decide_true, Int.toNat_natCast, Int.natCast_nonneg, intL_getD l i hlt, show l.getD i 0 = at' l i from rfl, tm (at' l i) m hxi, show m ≠ 0 by omega, tab_length, intL_snoc, hsn, show i + 1 ≤ 1099511627776 by omega, show (i + 1) * 8 ≤ 140737488355328 by omega, wid ((i : Int) + 1) (by omega) (by omega)]; (refine hK _ _ _ (by simp only [go_sem, Nat.reduceEqDiff, ↓reduceIte]; rfl) ?_); clear hK; clear K) | (with_reducible first | refine rgn_nil (by first | trivial | kernel_rfl) ?_ | refine AWP.seq ?_ | refine tX hC hP (by kernel_rfl) ?_ | refine aX hC hM hP (by kernel_rfl) ?_ | refine AWP.skip ?_ | refine AWP.label ?_ | refine AWP.exit ?_ | refine AWP.block ?_ | refine cTa ?_ | refine cFa ?_) | simp only [qS, Nat.reduceEqDiff, ↓reduceIte]))
      exact ⟨(i + 1, v + 1), by simp only; omega, by simp only; omega, by simp [Sub, lk]⟩
    · (repeat (first | ((with_reducible refine rgn_cons rfl (fun K hK => ?_)); simp only [go_sem, seval, ↓reduceIte, decide_true, decide_false, show ¬ (i : Int) < (l.length : Int) by omega, decide_false]; (refine hK _ _ _ (by simp only [go_sem, Nat.reduceEqDiff, ↓reduceIte]; rfl) ?_); clear hK; clear K) | (with_reducible first | refine rgn_nil (by first | trivial | kernel_rfl) ?_ | refine AWP.seq ?_ | refine tX hC hP (by kernel_rfl) ?_ | refine aX hC hM hP (by kernel_rfl) ?_ | refine AWP.skip ?_ | refine AWP.label ?_ | refine AWP.exit ?_ | refine AWP.block ?_ | refine cTa ?_ | refine cFa ?_) | simp only [qS, Nat.reduceEqDiff, ↓reduceIte]))
      (refine AWP.ret ?_; refine retOk1 (by simp only [go_sem, seval, ↓reduceIte, decide_true, decide_false]; rfl) ?_)
      rw [show i = l.length by omega]
/-- What is left of a ghost component behind i of the numbers. -/
def wgI (w : Int) (p : Nat) (l : List Int) (g : Int) (k i : Nat) : Int := g - sm i (fun t => ((p : Int) ^ t % w) * (at' l t ^ (p ^ (k - t)) % w) % w)
theorem wgI_next {w : Int} {p : Nat} {l : List Int} {g : Int} {k i : Nat} : wgI w p l g k i - ((p ^ i : Nat) : Int) % w * (at' l i ^ (p ^ (k - i)) % w) % w = wgI w p l g k (i + 1) := by
  unfold wgI
  rw [sm, Int.natCast_pow]; omega
theorem wgI_b {w : Int} {p : Nat} {l : List Int} {g : Int} {k : Nat} (hw : 0 < w) (hg : 0 ≤ g ∧ g < w) : ∀ i : Nat, -((i : Int) * w) ≤ wgI w p l g k i ∧ wgI w p l g k i < w
  | 0 => by simp only [wgI, sm]; omega
  | i + 1 => by
    have h := wgI_b (p := p) (l := l) (k := k) hw hg i
    have e := emod_b (((p ^ i : Nat) : Int) % w * (at' l i ^ (p ^ (k - i)) % w)) w hw
    rw [← wgI_next]
    have h2 : ((i + 1 : Nat) : Int) * w = (i : Int) * w + w := by rw [show ((i + 1 : Nat) : Int) = (i : Int) + 1 by omega, Int.add_mul, Int.one_mul]
    omega
theorem wgL_congr {w : Int} {p : Nat} {g h : Nat → Int} : ∀ {k : Nat}, (∀ i, i < k → g i = h i) → wgL w p g k = wgL w p h k
  | 0, _ => rfl
  | k + 1, hh => by rw [wgL, wgL, wgL_congr (fun i hi => hh i (by omega)), hh k (by omega)]
set_option maxHeartbeats 2000000 in
theorem c_impl_Witt_withGhosts (p : Nat) (m w : Int) (l g : List Int) (hp1 : 2 ≤ p) (hp2 : p ≤ 7) (hm : 0 < m) (hm2 : m ≤ 10000) (hwm : m * ((p ^ 4 : Nat) : Int) = w) (hw1 : 0 < w) (hw2 : w ≤ 24010000) (hr : g.length ≤ 4) (hg : ∀ x ∈ g, 0 ≤ x ∧ x < w) : AFn Tryz.prog 89 [.agg [.int .i64 p, .int .i64 m, .sl false 2 (intL l)], .sl false 2 (intL g)] (.agg [.int .i64 p, .int .i64 m, .sl true 2 (intL (tab g.length (fun i => at' (wgL w p (at' g) g.length) i % m)))]) := by
  refine AFn.of' ttOk (by decide) Tryz.func89 Tryz.ntmps89 (by rw [Tryz.results89]) (by rfl) (by rfl) (by simp) (by decide) (by simp only [go_sem, Nat.reduceAdd, ↓reduceIte]; rfl) mixed (fun C hP hM hC => ?_)
  have hWd := c_impl_Witt_wide p m w l hp2 hm hm2 hwm (by omega) hw2
  (repeat (first | ((with_reducible refine rgn_cons rfl (fun K hK => ?_)); simp only [go_sem, seval, ↓reduceIte, decide_true, decide_false]; (first | refine hK _ _ _ (by simp only [go_sem, Nat.reduceEqDiff, ↓reduceIte]; rfl) ?_ | refine ⟨_, hWd, hK _ _ _ (by simp only [go_sem, Nat.reduceEqDiff, ↓reduceIte]; rfl) ?_⟩); clear hK; clear K) | (with_reducible first | refine rgn_nil (by first | trivial | kernel_rfl) ?_ | refine AWP.seq ?_ | refine tX hC hP (by kernel_rfl) ?_ | refine aX hC hM hP (by kernel_rfl) ?_ | refine AWP.skip ?_ | refine AWP.label ?_ | refine AWP.exit ?_ | refine AWP.block ?_ | refine cTa ?_ | refine cFa ?_) | simp only [qS, Nat.reduceEqDiff, ↓reduceIte]))
  refine AWP.loop (fun x : Nat × Nat => [(16, ⟨0, .val (.int .i64 x.1)⟩), (15, ⟨0, .val (.int .i64 g.length)⟩), (14, ⟨0, .val (.sl false 2 (intL g))⟩), (5, ⟨0, .val (.int .i64 w)⟩), (6, ⟨x.2, .own (.sl true 2 (intL (wgL w p (at' g) x.1)))⟩), (2, ⟨1, .own (.box 42 (.agg [.int .i64 p, .int .i64 m, .sl false 2 (intL l)]))⟩), (4, ⟨1, .own (.box 42 (.agg [.int .i64 0, .int .i64 0, .nil]))⟩)]) (fun x => x.1 ≤ g.length) (fun x => g.length - x.1) (0, 1) (Nat.zero_le _) (fun i => rfl) ?_ (fun x hi => ?_)
  · simp [Sub, lk, wgL, intL]
  · obtain ⟨k, v⟩ := x
    simp only at hi ⊢
    by_cases hlt : k < g.length
    · have hgk := at_bound hg hw1 k
      have hll := wgL_length w p (at' g) k
      (repeat (first | ((with_reducible refine rgn_cons rfl (fun K hK => ?_)); simp only [go_sem, seval, ↓reduceIte, decide_true, decide_false, show (k : Int) < (g.length : Int) by omega, decide_true, Int.toNat_natCast, Int.natCast_nonneg, intL_getD g k hlt, show g.getD k 0 = at' g k from rfl]; (refine hK _ _ _ (by simp only [go_sem, Nat.reduceEqDiff, ↓reduceIte]; rfl) ?_); clear hK; clear K) | (with_reducible first | refine rgn_nil (by first | trivial | kernel_rfl) ?_ | refine AWP.seq ?_ | refine tX hC hP (by kernel_rfl) ?_ | refine aX hC hM hP (by kernel_rfl) ?_ | refine AWP.skip ?_ | refine AWP.label ?_ | refine AWP.exit ?_ | refine AWP.block ?_ | refine cTa ?_ | refine cFa ?_) | simp only [qS, Nat.reduceEqDiff, ↓reduceIte]))
      refine AWP.loop (fun i : Nat => [(23, ⟨0, .val (.int .i64 i)⟩), (22, ⟨0, .val (.int .i64 k)⟩), (9, ⟨0, .val (.int .i64 (wgI w p (wgL w p (at' g) k) (at' g k) k i))⟩), (7, ⟨0, .val (.int .i64 k)⟩), (16, ⟨0, .val (.int .i64 k)⟩), (15, ⟨0, .val (.int .i64 g.length)⟩), (14, ⟨0, .val (.sl false 2 (intL g))⟩), (5, ⟨0, .val (.int .i64 w)⟩), (6, ⟨v, .own (.sl true 2 (intL (wgL w p (at' g) k)))⟩), (2, ⟨1, .own (.box 42 (.agg [.int .i64 p, .int .i64 m, .sl false 2 (intL l)]))⟩), (4, ⟨1, .own (.box 42 (.agg [.int .i64 0, .int .i64 0, .nil]))⟩)]) (fun i => i ≤ k) (fun i => k - i) 0 (Nat.zero_le _) (fun i => rfl) ?_ (fun i hik => ?_)
      · simp [Sub, lk, wgI, sm]
      · by_cases hil : i < k
        · have hsi := wgL_b hw1 (p := p) (by omega) (at' g) hil
          have hlt2 : i < (wgL w p (at' g) k).length := by omega
          have u1 : IntKind.i64.wrap ((k : Int) - (i : Int)) = ((k - i : Nat) : Int) := by rw [wid _ (by omega) (by omega)]; omega
          have hb1 : p ^ (k - i) ≤ 16807 := pow_len hp2 (by omega)
          have e2 := emod_b ((p ^ i : Nat) : Int) w hw1
          have e3 := emod_b (at' (wgL w p (at' g) k) i ^ (p ^ (k - i))) w hw1
          have e4 := emod_b (((p ^ i : Nat) : Int) % w * (at' (wgL w p (at' g) k) i ^ (p ^ (k - i)) % w)) w hw1
          have e5 := wgI_b (p := p) (l := wgL w p (at' g) k) (k := k) hw1 hgk i
          have e7 := wgI_b (p := p) (l := wgL w p (at' g) k) (k := k) hw1 hgk (i + 1)
          have e6 : ((i + 1 : Nat) : Int) * w ≤ 4 * w := Int.mul_le_mul_of_nonneg_right (by omega) (by omega)
          have hE := wgI_next (w := w) (p := p) (l := wgL w p (at' g) k) (g := at' g k) (k := k) (i := i)
          have hC1 := c_impl_scale p i hp2 (by omega)
          have hC2 := c_impl_scale p (k - i) hp2 (by omega)
          have hC3 := c_impl_power_w w (at' (wgL w p (at' g) k) i) (p ^ (k - i)) hw1 (by omega) hsi.1 hsi.2 (by omega)
          have hC4 := c_impl_mul w (((p ^ i : Nat) : Int) % w) (at' (wgL w p (at' g) k) i ^ (p ^ (k - i)) % w) hw1 (by omega) e2.1 e2.2 e3.1 e3.2
          (repeat (first | ((with_reducible refine rgn_cons rfl (fun K hK => ?_)); simp only [go_sem, seval, ↓reduceIte, decide_true, decide_false, show (i : Int) < (k : Int) by omega, decide_true, u1, hll, Int.toNat_natCast, Int.natCast_nonneg, Nat.mul_one, intL_get _ i hlt2, sizeL_take _ i (Nat.le_of_lt hlt2), show (wgL w p (at' g) k).getD i 0 = at' (wgL w p (at' g) k) i from rfl, tm ((p ^ i : Nat) : Int) w (by omega), show w ≠ 0 by omega, hE, wid (wgI w p (wgL w p (at' g) k) (at' g k) k (i + 1)) (by omega) (by omega), wid ((i : Int) + 1) (by omega) (by omega)]; (first | refine hK _ _ _ (by simp only [go_sem, Nat.reduceEqDiff, ↓reduceIte]; rfl) ?_ | refine ⟨_, hC1, hK _ _ _ (by simp only [go_sem, Nat.reduceEqDiff, ↓reduceIte]; rfl) ?_⟩ | refine ⟨_, hC2, hK _ _ _ (by simp only [go_sem, Nat.reduceEqDiff, ↓reduceIte]; rfl) ?_⟩ | refine ⟨_, hC3, hK _ _ _ (by simp only [go_sem, Nat.reduceEqDiff, ↓reduceIte]; rfl) ?_⟩ | refine ⟨_, hC4, hK _ _ _ (by simp only [go_sem, Nat.reduceEqDiff, ↓reduceIte]; rfl) ?_⟩); clear hK; clear K) | (with_reducible first | refine rgn_nil (by first | trivial | kernel_rfl) ?_ | refine AWP.seq ?_ | refine tX hC hP (by kernel_rfl) ?_ | refine aX hC hM hP (by kernel_rfl) ?_ | refine AWP.skip ?_ | refine AWP.label ?_ | refine AWP.exit ?_ | refine AWP.block ?_ | refine cTa ?_ | refine cFa ?_) | simp only [qS, Nat.reduceEqDiff, ↓reduceIte]))
          exact ⟨i + 1, by omega, by omega, by simp [Sub, lk]⟩
        · have hik2 : i = k := by omega
          subst hik2
          have hpp : 0 < p ^ i := Nat.pow_pos (by omega)
          have hb1 : p ^ i ≤ 16807 := pow_len hp2 (by omega)
          have e1 := emod_b (wgI w p (wgL w p (at' g) i) (at' g i) i i) w hw1
          have hq : (wgI w p (wgL w p (at' g) i) (at' g i) i i % w).tdiv ((p ^ i : Nat) : Int) = wgR w p (wgL w p (at' g) i) (at' g i) i % w / (p : Int) ^ i := by
            rw [Int.tdiv_eq_ediv_of_nonneg e1.1, Int.natCast_pow]; rfl
          have hqb : 0 ≤ wgR w p (wgL w p (at' g) i) (at' g i) i % w / (p : Int) ^ i ∧ wgR w p (wgL w p (at' g) i) (at' g i) i % w / (p : Int) ^ i < w := by
            have h := wgL_b hw1 (p := p) (by omega) (at' g) (i := i) (k := i + 1) (by omega)
            rwa [wgL_last] at h
          have hsn : wgL w p (at' g) i ++ [wgR w p (wgL w p (at' g) i) (at' g i) i % w / (p : Int) ^ i] = wgL w p (at' g) (i + 1) := rfl
          have hC1 := c_impl_scale p i hp2 (by omega)
          have hC2 := c_impl_mod (wgI w p (wgL w p (at' g) i) (at' g i) i i) w hw1 (by omega)
          (repeat (first | ((with_reducible refine rgn_cons rfl (fun K hK => ?_)); simp only [go_sem, seval, ↓reduceIte, decide_true, decide_false, show ¬ (i : Int) < (i : Int) by omega, decide_false, hq, show ((p ^ i : Nat) : Int) ≠ 0 by omega, wid (wgR w p (wgL w p (at' g) i) (at' g i) i % w / (p : Int) ^ i) (by omega) (by omega), hll, intL_snoc, hsn, show i + 1 ≤ 1099511627776 by omega, show (i + 1) * 8 ≤ 140737488355328 by omega, wid ((i : Int) + 1) (by omega) (by omega)]; (first | refine hK _ _ _ (by simp only [go_sem, Nat.reduceEqDiff, ↓reduceIte]; rfl) ?_ | refine ⟨_, hC1, hK _ _ _ (by simp only [go_sem, Nat.reduceEqDiff, ↓reduceIte]; rfl) ?_⟩ | refine ⟨_, hC2, hK _ _ _ (by simp only [go_sem, Nat.reduceEqDiff, ↓reduceIte]; rfl) ?_⟩); clear hK; clear K) | (with_reducible first | refine rgn_nil (by first | trivial | kernel_rfl) ?_ | refine AWP.seq ?_ | refine tX hC hP (by kernel_rfl) ?_ | refine aX hC hM hP (by kernel_rfl) ?_ | refine AWP.skip ?_ | refine AWP.label ?_ | refine AWP.exit ?_ | refine AWP.block ?_ | refine cTa ?_ | refine cFa ?_) | simp only [qS, Nat.reduceEqDiff, ↓reduceIte]))
          exact ⟨(i + 1, v + 1), by simp only; omega, by simp only; omega, by simp [Sub, lk]⟩
    · have hk : k = g.length := by omega
      subst hk
      have hll := wgL_length w p (at' g) g.length
      have hC1 := c_impl_remainders_w m (wgL w p (at' g) g.length) hm (by omega) (fun x hx => by
        obtain ⟨i, hi2, rfl⟩ := List.mem_iff_getElem.1 hx
        have h := wgL_b hw1 (p := p) (by omega) (at' g) (i := i) (k := g.length) (by omega)
        rw [at', List.getD_eq_getElem?_getD, List.getElem?_eq_getElem hi2] at h
        exact h.1)
      rw [hll] at hC1
      (repeat (first | ((with_reducible refine rgn_cons rfl (fun K hK => ?_)); simp only [go_sem, seval, ↓reduceIte, decide_true, decide_false, show ¬ (g.length : Int) < (g.length : Int) by omega, decide_false]; (first | refine hK _ _ _ (by simp only [go_sem, Nat.reduceEqDiff, ↓reduceIte]; rfl) ?_ | refine ⟨_, hC1, hK _ _ _ (by simp only [go_sem, Nat.reduceEqDiff, ↓reduceIte]; rfl) ?_⟩); clear hK; clear K) | (with_reducible first | refine rgn_nil (by first | trivial | kernel_rfl) ?_ | refine AWP.seq ?_ | refine tX hC hP (by kernel_rfl) ?_ | refine aX hC hM hP (by kernel_rfl) ?_ | refine AWP.skip ?_ | refine AWP.label ?_ | refine AWP.exit ?_ | refine AWP.block ?_ | refine cTa ?_ | refine cFa ?_) | simp only [qS, Nat.reduceEqDiff, ↓reduceIte]))
      (refine AWP.ret ?_; refine retOk1 (by simp only [go_sem, seval, ↓reduceIte, decide_true, decide_false]; rfl) ?_)
      rfl
theorem awL_tab (m : Int) (p : Nat) (x y : List Int) (r : Nat) {g : List Int} (hg : ∀ i, i < r → at' g i = awG (m * (p : Int) ^ 4) p x y i) : tab r (fun i => at' (wgL (m * (p : Int) ^ 4) p (at' g) r) i % m) = awL m p x y r := by
  rw [← tab_self (awL m p x y r), awL_length]
  refine tab_congr fun i hi => ?_
  rw [wgL_congr hg]
  show _ = at' (awL m p x y r) i
  rw [awL_at _ _ _ _ hi, wgL_pre _ _ _ hi]
set_option maxHeartbeats 2000000 in
theorem c_impl_Witt_joined (p : Nat) (m w : Int) (x y : List Int) (hp1 : 2 ≤ p) (hp2 : p ≤ 7) (hm : 0 < m) (hm2 : m ≤ 10000) (hwm : m * ((p ^ 4 : Nat) : Int) = w) (hw1 : 0 < w) (hw2 : w ≤ 24010000) (hxl : x.length ≤ 4) (hyl : y.length = x.length) (hx : ∀ z ∈ x, 0 ≤ z ∧ z < 10000) (hy : ∀ z ∈ y, 0 ≤ z ∧ z < 10000) : AFn Tryz.prog 60 [.agg [.int .i64 p, .int .i64 m, .sl false 2 (intL x)], .agg [.int .i64 p, .int .i64 m, .sl false 2 (intL y)], .fn 61 []] (.agg [.int .i64 p, .int .i64 m, .sl true 2 (intL (awL m p x y x.length))]) := by
  refine AFn.of' ttOk (by decide) Tryz.func60 Tryz.ntmps60 (by rw [Tryz.results60]) (by rfl) (by rfl) (by simp) (by decide) (by simp only [go_sem, Nat.reduceAdd, ↓reduceIte]; rfl) mixed (fun C hP hM hC => ?_)
  have hWd := c_impl_Witt_wide p m w x hp2 hm hm2 hwm (by omega) hw2
  have hG1 := c_impl_Witt_ghosts p m w x hp1 hp2 hxl hw1 (by omega) hx
  have hG2 := c_impl_Witt_ghosts p m w y hp1 hp2 (by omega) hw1 (by omega) hy
  rw [hyl] at hG2
  have hwe : m * (p : Int) ^ 4 = w := by rw [← hwm, Int.natCast_pow]
  (repeat (first | ((with_reducible refine rgn_cons rfl (fun K hK => ?_)); simp only [go_sem, seval, ↓reduceIte, decide_true, decide_false, tab_length]; (first | refine hK _ _ _ (by simp only [go_sem, Nat.reduceEqDiff, ↓reduceIte]; rfl) ?_ | refine ⟨_, hWd, hK _ _ _ (by simp only [go_sem, Nat.reduceEqDiff, ↓reduceIte]; rfl) ?_⟩ | refine ⟨_, hG1, hK _ _ _ (by simp only [go_sem, Nat.reduceEqDiff, ↓reduceIte]; rfl) ?_⟩ | refine ⟨_, hG2, hK _ _ _ (by simp only [go_sem, Nat.reduceEqDiff, ↓reduceIte]; rfl) ?_⟩); clear hK; clear K) | (with_reducible first | refine rgn_nil (by first | trivial | kernel_rfl) ?_ | refine AWP.seq ?_ | refine tX hC hP (by kernel_rfl) ?_ | refine aX hC hM hP (by kernel_rfl) ?_ | refine AWP.skip ?_ | refine AWP.label ?_ | refine AWP.exit ?_ | refine AWP.block ?_ | refine cTa ?_ | refine cFa ?_) | simp only [qS, Nat.reduceEqDiff, ↓reduceIte]))
  refine AWP.loop (fun c : Nat × Nat => [(23, ⟨0, .val (.int .i64 c.1)⟩), (22, ⟨0, .val (.int .i64 x.length)⟩), (8, ⟨c.2, .own (.sl true 2 (intL (tab c.1 (awG w p x y))))⟩), (2, ⟨0, .val (.fn 61 [])⟩), (7, ⟨0, .val (.int .i64 w)⟩), (9, ⟨1, .own (.sl true 2 (intL (tab x.length (fun k => ghI p (at' x) k % w))))⟩), (10, ⟨1, .own (.sl true 2 (intL (tab x.length (fun k => ghI p (at' y) k % w))))⟩), (3, ⟨1, .own (.box 42 (.agg [.int .i64 p, .int .i64 m, .sl false 2 (intL x)]))⟩), (6, ⟨1, .own (.box 42 (.agg [.int .i64 0, .int .i64 0, .nil]))⟩)]) (fun c => c.1 ≤ x.length) (fun c => x.length - c.1) (0, 1) (Nat.zero_le _) (fun i => rfl) ?_ (fun c hi => ?_)
  · simp [Sub, lk, tab_nil, intL]
  · obtain ⟨i, v⟩ := c
    simp only at hi ⊢
    by_cases hlt : i < x.length
    · have e1 := emod_b (ghI p (at' x) i) w hw1
      have e2 := emod_b (ghI p (at' y) i) w hw1
      have l1 : (tab x.length (fun k => ghI p (at' x) k % w)).length = x.length := tab_length _ _
      have l2 : (tab x.length (fun k => ghI p (at' y) k % w)).length = x.length := tab_length _ _
      have k1 : i < (tab x.length (fun k => ghI p (at' x) k % w)).length := by omega
      have k2 : i < (tab x.length (fun k => ghI p (at' y) k % w)).length := by omega
      have v1 : (tab x.length (fun k => ghI p (at' x) k % w)).getD i 0 = ghI p (at' x) i % w := tab_getD hlt
      have v2 : (tab x.length (fun k => ghI p (at' y) k % w)).getD i 0 = ghI p (at' y) i % w := tab_getD hlt
      have hA := c_impl_AddWitt_1 (ghI p (at' x) i % w) (ghI p (at' y) i % w) (by omega) (by omega)
      have hB := c_impl_mod (ghI p (at' x) i % w + ghI p (at' y) i % w) w hw1 (by omega)
      have hsn : tab i (awG w p x y) ++ [(ghI p (at' x) i % w + ghI p (at' y) i % w) % w] = tab (i + 1) (awG w p x y) := tab_succ _ _
      (repeat (first | ((with_reducible refine rgn_cons rfl (fun K hK => ?_)); simp only [go_sem, seval, ↓reduceIte, decide_true, decide_false, show (i : Int) < (x.length : Int) by omega, decide_true, Int.toNat_natCast, Int.natCast_nonneg, Nat.mul_one, l1, l2, intL_get _ i k1, intL_get _ i k2, sizeL_take _ i (Nat.le_of_lt k1), sizeL_take _ i (Nat.le_of_lt k2), v1, v2, tab_length, intL_snoc, hsn, show i + 1 ≤ 1099511627776 by omega, show (i + 1) * 8 ≤ 140737488355328 by omega, wid ((i : Int) + 1) (by omega) (by omega)]; (first | refine hK _ _ _ (by simp only [go_sem, Nat.reduceEqDiff, ↓reduceIte]; rfl) ?_ | refine ⟨_, hA, hK _ _ _ (by simp only [go_sem, Nat.reduceEqDiff, ↓reduceIte]; rfl) ?_⟩ | refine ⟨_, hB, hK _ _ _ (by simp only [go_sem, Nat.reduceEqDiff, ↓reduceIte]; rfl) ?_⟩); clear hK; clear K) | (with_reducible first | refine rgn_nil (by first | trivial | kernel_rfl) ?_ | refine AWP.seq ?_ | refine tX hC hP (by kernel_rfl) ?_ | refine aX hC hM hP (by kernel_rfl) ?_ | refine AWP.skip ?_ | refine AWP.label ?_ | refine AWP.exit ?_ | refine AWP.block ?_ | refine cTa ?_ | refine cFa ?_) | simp only [qS, Nat.reduceEqDiff, ↓reduceIte]))
      exact ⟨(i + 1, v + 1), by simp only; omega, by simp only; omega, by simp [Sub, lk]⟩
    · have hk : i = x.length := by omega
      subst hk
      have hC1 := c_impl_Witt_withGhosts p m w x (tab x.length (awG w p x y)) hp1 hp2 hm hm2 hwm hw1 hw2 (by rw [tab_length]; exact hxl) (fun z hz => by
        obtain ⟨i, _, rfl⟩ := mem_tab.1 hz
        exact emod_b _ w hw1)
      rw [tab_length] at hC1
      have hT := awL_tab m p x y x.length (g := tab x.length (awG w p x y)) (fun i hi => by rw [at_tab hi, hwe])
      rw [hwe] at hT
      rw [hT] at hC1
      (repeat (first | ((with_reducible refine rgn_cons rfl (fun K hK => ?_)); simp only [go_sem, seval, ↓reduceIte, decide_true, decide_false, show ¬ (x.length : Int) < (x.length : Int) by omega, decide_false]; (first | refine hK _ _ _ (by simp only [go_sem, Nat.reduceEqDiff, ↓reduceIte]; rfl) ?_ | refine ⟨_, hC1, hK _ _ _ (by simp only [go_sem, Nat.reduceEqDiff, ↓reduceIte]; rfl) ?_⟩); clear hK; clear K) | (with_reducible first | refine rgn_nil (by first | trivial | kernel_rfl) ?_ | refine AWP.seq ?_ | refine tX hC hP (by kernel_rfl) ?_ | refine aX hC hM hP (by kernel_rfl) ?_ | refine AWP.skip ?_ | refine AWP.label ?_ | refine AWP.exit ?_ | refine AWP.block ?_ | refine cTa ?_ | refine cFa ?_) | simp only [qS, Nat.reduceEqDiff, ↓reduceIte]))
      (refine AWP.ret ?_; refine retOk1 (by simp only [go_sem, seval, ↓reduceIte, decide_true, decide_false]; rfl) ?_)
      rfl
end Go.Proofs.YtdnaecmcbkfpaaaGreat
