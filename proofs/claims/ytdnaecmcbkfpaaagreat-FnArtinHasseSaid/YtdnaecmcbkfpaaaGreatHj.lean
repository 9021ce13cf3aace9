/-
  BigOfBlocks.
-/
import Derived.Test.YtdnaecmcbkfpaaaGreatHi
namespace Go.Proofs.YtdnaecmcbkfpaaaGreat
open Go.RowKit
set_option linter.unusedSimpArgs false
set_option linter.unusedVariables false
set_option linter.unusedSectionVars false
set_option maxRecDepth 20000
-- BigOfBlocks.
def bobC (p m : Int) (l : List Int) : Int := if typB p = true ∧ degC m l = 0 then pwC p m else 2
theorem bobC_zero {p m : Int} {l : List Int} (h : bobC p m l = 0) : typB p = true ∧ degC m l = 0 ∧ powB p.toNat m.toNat = true := by
  unfold bobC at h
  split at h
  · rename_i g; exact ⟨g.1, g.2, pwC_zero h⟩
  · cases h
/-- The product of the blocks of the first numbers. -/
def bobL (m : Int) (e l : List Int) (d : Nat) : Nat → List Int
  | 0 => oneL d
  | k + 1 => timesL m (bobL m e l d k) (blL m e (at' l k) (k + 1) d) d
theorem bobL_facts {m : Int} (hm : 1 < m) (e l : List Int) (d : Nat) : ∀ k, (bobL m e l d k).length = d + 1 ∧ ∀ x ∈ bobL m e l d k, 0 ≤ x ∧ x < m
  | 0 => ⟨oneL_length d, oneL_num d hm⟩
  | k + 1 => ⟨timesL_length _ _ _ _, timesL_num _ _ _ _ (by omega)⟩
set_option maxHeartbeats 1000000 in
theorem c_impl_BigOfBlocks_ok (p m : Int) (l : List Int) (hl : l.length ≤ 1099511627776) (h : bobC p m l = 0) : AFn Tryz.prog 13 [.int .i64 p, .int .i64 m, .sl false 2 (intL l)] (.tup [.agg [.int .i64 m, .sl true 2 (intL (bobL m (ahL p.toNat m l.length) l l.length l.length))], .int .i64 (bobC p m l)]) := by
  refine AFn.of' ttOk (by decide) Tryz.func13 Tryz.ntmps13 (by rw [Tryz.results13]) (by rfl) (by rfl) (by simp) (by decide) (by simp only [go_sem, Nat.reduceAdd, ↓reduceIte]; rfl) mixed (fun C hP hM hC => ?_)
  have hz := bobC_zero h
  have hd := degC_zero hz.2.1
  have hS := c_impl_artinHasseSeries_i p m (l.length : Int) hz.1 ⟨hd.1, hd.2.1⟩ (by omega)
  rw [Int.toNat_natCast] at hS
  have hD := c_impl_degreed m l hl
  rw [hz.2.1] at hD
  have e1 : (1 : Int) % m = 1 := Int.emod_eq_of_lt (by omega) (by omega)
  have h0 := c_impl_Series_constant m (ahL p.toNat m l.length) 1 (by rw [ahL_length]; omega) (by rw [ahL_length]; omega) (by omega) (by omega)
  rw [e1, ahL_length, oneL_of] at h0
  (repeat (first | ((with_reducible refine rgn_cons rfl (fun K hK => ?_)); simp only [go_sem, seval, ↓reduceIte, decide_true, decide_false, hz.1, hz.2.2, show ((0 : Int) != 0) = false from rfl]; (first | refine hK _ _ _ (by simp only [go_sem, Nat.reduceEqDiff, ↓reduceIte]; rfl) ?_ | refine ⟨_, c_impl_isTypicalPrime p, hK _ _ _ (by simp only [go_sem, Nat.reduceEqDiff, ↓reduceIte]; rfl) ?_⟩ | refine ⟨_, hD, hK _ _ _ (by simp only [go_sem, Nat.reduceEqDiff, ↓reduceIte]; rfl) ?_⟩ | refine ⟨_, c_impl_isPowerOf_i p m hz.1 ⟨hd.1, hd.2.1⟩, hK _ _ _ (by simp only [go_sem, Nat.reduceEqDiff, ↓reduceIte]; rfl) ?_⟩ | refine ⟨_, hS, hK _ _ _ (by simp only [go_sem, Nat.reduceEqDiff, ↓reduceIte]; rfl) ?_⟩ | refine ⟨_, h0, hK _ _ _ (by simp only [go_sem, Nat.reduceEqDiff, ↓reduceIte]; rfl) ?_⟩); clear hK; clear K) | (with_reducible first | refine rgn_nil (by first | trivial | kernel_rfl) ?_ | refine AWP.seq ?_ | refine tX hC hP (by kernel_rfl) ?_ | refine aX hC hM hP (by kernel_rfl) ?_ | refine AWP.skip ?_ | refine AWP.label ?_ | refine AWP.exit ?_ | refine AWP.block ?_ | refine cTa ?_ | refine cFa ?_) | simp only [qS, Nat.reduceEqDiff, ↓reduceIte]))
  refine AWP.loop (fun w : Nat × Nat => [(38, ⟨0, .val (.int .i64 w.1)⟩), (37, ⟨0, .val (.int .i64 l.length)⟩), (36, ⟨0, .val (.sl false 2 (intL l))⟩), (9, ⟨w.2, .own (.box 31 (.agg [.int .i64 m, .sl true 2 (intL (bobL m (ahL p.toNat m l.length) l l.length w.1))]))⟩), (8, ⟨2, .own (.box 31 (.agg [.int .i64 m, .sl true 2 (intL (ahL p.toNat m l.length))]))⟩), (6, ⟨1, .own (.box 31 (.agg [.int .i64 0, .nil]))⟩)]) (fun w => w.1 ≤ l.length) (fun w => l.length - w.1) (0, 2) (Nat.zero_le _) (fun i => rfl) ?_ (fun w hw => ?_)
  · simp [Sub, lk, bobL]
  · obtain ⟨c, v⟩ := w
    simp only at hw ⊢
    by_cases hc2 : c < l.length
    · have hx := at_bound hd.2.2.1 (by omega) c
      have ho := bobL_facts (m := m) (by omega) (ahL p.toNat m l.length) l l.length c
      have hG := c_impl_block m (at' l c) (ahL p.toNat m l.length) (c + 1) l.length (by omega) (by omega) (ahL_num (by omega) _ _) (ahL_length _ _ _) hx (by omega) (by omega) (by omega)
      rw [Int.natCast_add, Int.cast_ofNat_Int] at hG
      have hT := c_impl_Series_times m (bobL m (ahL p.toNat m l.length) l l.length c) (blL m (ahL p.toNat m l.length) (at' l c) (c + 1) l.length) l.length (by omega) (by omega) ho.2 (blL_num (by omega) _ _ _ _) ho.1 (blL_length _ _ _ _ _) (by omega)
      (repeat (first | ((with_reducible refine rgn_cons rfl (fun K hK => ?_)); simp only [go_sem, seval, ↓reduceIte, decide_true, decide_false, show (c : Int) < (l.length : Int) by omega, decide_true, Int.toNat_natCast, Int.natCast_nonneg, intL_getD l c hc2, show l.getD c 0 = at' l c from rfl, wid ((c : Int) + 1) (by omega) (by omega)]; (first | refine hK _ _ _ (by simp only [go_sem, Nat.reduceEqDiff, ↓reduceIte]; rfl) ?_ | refine ⟨_, hG, hK _ _ _ (by simp only [go_sem, Nat.reduceEqDiff, ↓reduceIte]; rfl) ?_⟩ | refine ⟨_, hT, hK _ _ _ (by simp only [go_sem, Nat.reduceEqDiff, ↓reduceIte]; rfl) ?_⟩); clear hK; clear K) | (with_reducible first | refine rgn_nil (by first | trivial | kernel_rfl) ?_ | refine AWP.seq ?_ | refine tX hC hP (by kernel_rfl) ?_ | refine aX hC hM hP (by kernel_rfl) ?_ | refine AWP.skip ?_ | refine AWP.label ?_ | refine AWP.exit ?_ | refine AWP.block ?_ | refine cTa ?_ | refine cFa ?_) | simp only [qS, Nat.reduceEqDiff, ↓reduceIte]))
      exact ⟨(c + 1, v + 1), by simp only; omega, by simp only; omega, by simp [Sub, lk, bobL]⟩
    · (repeat (first | ((with_reducible refine rgn_cons rfl (fun K hK => ?_)); simp only [go_sem, seval, ↓reduceIte, decide_true, decide_false, show ¬ (c : Int) < (l.length : Int) by omega, decide_false]; (refine hK _ _ _ (by simp only [go_sem, Nat.reduceEqDiff, ↓reduceIte]; rfl) ?_); clear hK; clear K) | (with_reducible first | refine rgn_nil (by first | trivial | kernel_rfl) ?_ | refine AWP.seq ?_ | refine tX hC hP (by kernel_rfl) ?_ | refine aX hC hM hP (by kernel_rfl) ?_ | refine AWP.skip ?_ | refine AWP.label ?_ | refine AWP.exit ?_ | refine AWP.block ?_ | refine cTa ?_ | refine cFa ?_) | simp only [qS, Nat.reduceEqDiff, ↓reduceIte]))
      (refine AWP.ret ?_; refine retOk2 (by simp only [go_sem, seval, ↓reduceIte, decide_true, decide_false]; rfl) (by simp only [go_sem, seval, ↓reduceIte, decide_true, decide_false]; rfl) (by simp) ?_)
      rw [h, show c = l.length by omega]
set_option maxHeartbeats 1000000 in
theorem c_impl_BigOfBlocks_no (p m : Int) (l : List Int) (hl : l.length ≤ 1099511627776) (h : ¬ bobC p m l = 0) : AFn Tryz.prog 13 [.int .i64 p, .int .i64 m, .sl false 2 (intL l)] (.tup [.agg [.int .i64 0, .nil], .int .i64 (bobC p m l)]) := by
  refine AFn.of' ttOk (by decide) Tryz.func13 Tryz.ntmps13 (by rw [Tryz.results13]) (by rfl) (by rfl) (by simp) (by decide) (by simp only [go_sem, Nat.reduceAdd, ↓reduceIte]; rfl) mixed (fun C hP hM hC => ?_)
  cases ht : typB p with
  | false =>
    (repeat (first | ((with_reducible refine rgn_cons rfl (fun K hK => ?_)); simp only [go_sem, seval, ↓reduceIte, decide_true, decide_false, ht]; (first | refine hK _ _ _ (by simp only [go_sem, Nat.reduceEqDiff, ↓reduceIte]; rfl) ?_ | refine ⟨_, c_impl_isTypicalPrime p, hK _ _ _ (by simp only [go_sem, Nat.reduceEqDiff, ↓reduceIte]; rfl) ?_⟩); clear hK; clear K) | (with_reducible first | refine rgn_nil (by first | trivial | kernel_rfl) ?_ | refine AWP.seq ?_ | refine tX hC hP (by kernel_rfl) ?_ | refine aX hC hM hP (by kernel_rfl) ?_ | refine AWP.skip ?_ | refine AWP.label ?_ | refine AWP.exit ?_ | refine AWP.block ?_ | refine cTa ?_ | refine cFa ?_) | simp only [qS, Nat.reduceEqDiff, ↓reduceIte]))
    (refine AWP.ret ?_; refine retOk2 (by simp only [go_sem, seval, ↓reduceIte, decide_true, decide_false]; rfl) (by simp only [go_sem, seval, ↓reduceIte, decide_true, decide_false]; rfl) (by simp) ?_)
    simp [bobC, ht]
  | true =>
    by_cases h1 : degC m l = 0
    · have hd := degC_zero h1
      have hD := c_impl_degreed m l hl
      rw [h1] at hD
      cases hw : powB p.toNat m.toNat with
      | true => exact absurd (by simp [bobC, ht, h1, pwC, hw]) h
      | false =>
        (repeat (first | ((with_reducible refine rgn_cons rfl (fun K hK => ?_)); simp only [go_sem, seval, ↓reduceIte, decide_true, decide_false, ht, hw, show ((0 : Int) != 0) = false from rfl]; (first | refine hK _ _ _ (by simp only [go_sem, Nat.reduceEqDiff, ↓reduceIte]; rfl) ?_ | refine ⟨_, c_impl_isTypicalPrime p, hK _ _ _ (by simp only [go_sem, Nat.reduceEqDiff, ↓reduceIte]; rfl) ?_⟩ | refine ⟨_, hD, hK _ _ _ (by simp only [go_sem, Nat.reduceEqDiff, ↓reduceIte]; rfl) ?_⟩ | refine ⟨_, c_impl_isPowerOf_i p m ht ⟨hd.1, hd.2.1⟩, hK _ _ _ (by simp only [go_sem, Nat.reduceEqDiff, ↓reduceIte]; rfl) ?_⟩); clear hK; clear K) | (with_reducible first | refine rgn_nil (by first | trivial | kernel_rfl) ?_ | refine AWP.seq ?_ | refine tX hC hP (by kernel_rfl) ?_ | refine aX hC hM hP (by kernel_rfl) ?_ | refine AWP.skip ?_ | refine AWP.label ?_ | refine AWP.exit ?_ | refine AWP.block ?_ | refine cTa ?_ | refine cFa ?_) | simp only [qS, Nat.reduceEqDiff, ↓reduceIte]))
        (refine AWP.ret ?_; refine retOk2 (by simp only [go_sem, seval, ↓reduceIte, decide_true, decide_false]; rfl) (by simp only [go_sem, seval, ↓reduceIte, decide_true, decide_false]; rfl) (by simp) ?_)
        simp [bobC, ht, h1, pwC, hw]
    · (repeat (first | ((with_reducible refine rgn_cons rfl (fun K hK => ?_)); simp only [go_sem, seval, ↓reduceIte, decide_true, decide_false, ht, show (degC m l != 0) = true by simp [h1]]; (first | refine hK _ _ _ (by simp only [go_sem, Nat.reduceEqDiff, ↓reduceIte]; rfl) ?_ | refine ⟨_, c_impl_isTypicalPrime p, hK _ _ _ (by simp only [go_sem, Nat.reduceEqDiff, ↓reduceIte]; rfl) ?_⟩ | refine ⟨_, c_impl_degreed m l hl, hK _ _ _ (by simp only [go_sem, Nat.reduceEqDiff, ↓reduceIte]; rfl) ?_⟩); clear hK; clear K) | (with_reducible first | refine rgn_nil (by first | trivial | kernel_rfl) ?_ | refine AWP.seq ?_ | refine tX hC hP (by kernel_rfl) ?_ | refine aX hC hM hP (by kernel_rfl) ?_ | refine AWP.skip ?_ | refine AWP.label ?_ | refine AWP.exit ?_ | refine AWP.block ?_ | refine cTa ?_ | refine cFa ?_) | simp only [qS, Nat.reduceEqDiff, ↓reduceIte]))
      (refine AWP.ret ?_; refine retOk2 (by simp only [go_sem, seval, ↓reduceIte, decide_true, decide_false]; rfl) (by simp only [go_sem, seval, ↓reduceIte, decide_true, decide_false]; rfl) (by simp) ?_)
      simp [bobC, ht, h1]
theorem degC_of {m : Int} {l : List Int} (h1 : 2 ≤ m ∧ m ≤ 10000) (h2 : 1 ≤ l.length ∧ l.length ≤ 10) (h3 : ∀ x ∈ l, 0 ≤ x ∧ x < m) : degC m l = 0 := by
  have e : codeN m l = 0 := by
    unfold codeN
    rw [if_pos (by simp [h1]), if_pos (by
      rw [List.all_eq_true]; intro x hx; have := h3 x hx; simp [isNum]; omega)]
  unfold degC
  rw [if_pos e, if_pos (by simp; omega)]
set_option maxHeartbeats 1000000 in
theorem c_spec_BigOfBlocks_ok (p m : Int) (l : List Int) (hl : l.length ≤ 1099511627776) (h : bobC p m l = 0) : AFn Tryz.prog 14 [.int .i64 p, .int .i64 m, .sl false 2 (intL l)] (.tup [.agg [.int .i64 m, .sl true 2 (intL (bobL m (ahL p.toNat m l.length) l l.length l.length))], .int .i64 (bobC p m l)]) := by
  refine AFn.of' ttOk (by decide) Tryz.func14 Tryz.ntmps14 (by rw [Tryz.results14]) (by rfl) (by rfl) (by simp) (by decide) (by simp only [go_sem, Nat.reduceAdd, ↓reduceIte]; rfl) mixed (fun C hP hM hC => ?_)
  have hz := bobC_zero h
  have hd := degC_zero hz.2.1
  have hS := c_spec_l15Series_i p m (l.length : Int) hz.1 ⟨hd.1, hd.2.1⟩ (by omega)
  rw [Int.toNat_natCast] at hS
  have hln : 1 ≤ (l.length : Int) ∧ (l.length : Int) ≤ 10 := by omega
  (repeat (first | ((with_reducible refine rgn_cons rfl (fun K hK => ?_)); simp only [go_sem, seval, ↓reduceIte, decide_true, decide_false, hz.1, and_yes ⟨hd.1, hd.2.1⟩, and_yes hln]; (first | refine hK _ _ _ (by simp only [go_sem, Nat.reduceEqDiff, ↓reduceIte]; rfl) ?_ | refine ⟨_, c_spec_l09Prime p, hK _ _ _ (by simp only [go_sem, Nat.reduceEqDiff, ↓reduceIte]; rfl) ?_⟩ | refine ⟨_, c_spec_l01In _ _ _, hK _ _ _ (by simp only [go_sem, Nat.reduceEqDiff, ↓reduceIte]; rfl) ?_⟩); clear hK; clear K) | (with_reducible first | refine rgn_nil (by first | trivial | kernel_rfl) ?_ | refine AWP.seq ?_ | refine tX hC hP (by kernel_rfl) ?_ | refine aX hC hM hP (by kernel_rfl) ?_ | refine AWP.skip ?_ | refine AWP.label ?_ | refine AWP.exit ?_ | refine AWP.block ?_ | refine cTa ?_ | refine cFa ?_) | simp only [qS, Nat.reduceEqDiff, ↓reduceIte]))
  refine AWP.loop (fun i : Nat => [(8, ⟨0, .val (.int .i64 i)⟩), (0, ⟨0, .val (.int .i64 p)⟩), (1, ⟨0, .val (.int .i64 m)⟩), (2, ⟨0, .val (.sl false 2 (intL l))⟩), (6, ⟨1, .own (.box 31 (.agg [.int .i64 0, .nil]))⟩)]) (fun i => i ≤ l.length) (fun i => l.length - i) 0 (Nat.zero_le _) (fun i => rfl) ?_ (fun i hi => ?_)
  · simp [Sub, lk]
  · by_cases hlt : i < l.length
    · have hx := at_bound hd.2.2.1 (by omega) i
      have hx2 : (0 : Int) ≤ at' l i ∧ at' l i ≤ m - 1 := by omega
      (repeat (first | ((with_reducible refine rgn_cons rfl (fun K hK => ?_)); simp only [go_sem, seval, ↓reduceIte, decide_true, decide_false, show (i : Int) < (l.length : Int) by omega, decide_true, Int.toNat_natCast, Int.natCast_nonneg, intL_getD l i hlt, show l.getD i 0 = at' l i from rfl, wid (m - 1) (by omega) (by omega), and_yes hx2, wid ((i : Int) + 1) (by omega) (by omega)]; (first | refine hK _ _ _ (by simp only [go_sem, Nat.reduceEqDiff, ↓reduceIte]; rfl) ?_ | refine ⟨_, c_spec_l01In _ _ _, hK _ _ _ (by simp only [go_sem, Nat.reduceEqDiff, ↓reduceIte]; rfl) ?_⟩); clear hK; clear K) | (with_reducible first | refine rgn_nil (by first | trivial | kernel_rfl) ?_ | refine AWP.seq ?_ | refine tX hC hP (by kernel_rfl) ?_ | refine aX hC hM hP (by kernel_rfl) ?_ | refine AWP.skip ?_ | refine AWP.label ?_ | refine AWP.exit ?_ | refine AWP.block ?_ | refine cTa ?_ | refine cFa ?_) | simp only [qS, Nat.reduceEqDiff, ↓reduceIte]))
      exact ⟨i + 1, by omega, by omega, by simp [Sub, lk]⟩
    · have h0 : 0 < (tab (l.length + 1) (fun _ => 0)).length := by rw [tab_length]; omega
      (repeat (first | ((with_reducible refine rgn_cons rfl (fun K hK => ?_)); simp only [go_sem, seval, ↓reduceIte, decide_true, decide_false, show ¬ (i : Int) < (l.length : Int) by omega, decide_false, hz.2.2, wid ((l.length : Int) + 1) (by omega) (by omega), show (0 : Int) ≤ (l.length : Int) + 1 by omega, show ((l.length : Int) + 1).toNat = l.length + 1 by omega, show (l.length : Int) + 1 ≤ 1099511627776 by omega, intL_replicate, tab_zero, tab_length, Int.le_refl, Int.toNat_zero, show (0 : Int) < ((l.length + 1 : Nat) : Int) by omega, intL_get _ _ h0, List.take_zero, Nat.zero_mul, intL_modify, tab_set, oneL_of]; (first | refine hK _ _ _ (by simp only [go_sem, Nat.reduceEqDiff, ↓reduceIte]; rfl) ?_ | refine ⟨_, c_spec_l09PowerOf_i p m hz.1 ⟨hd.1, hd.2.1⟩, hK _ _ _ (by simp only [go_sem, Nat.reduceEqDiff, ↓reduceIte]; rfl) ?_⟩ | refine ⟨_, hS, hK _ _ _ (by simp only [go_sem, Nat.reduceEqDiff, ↓reduceIte]; rfl) ?_⟩); clear hK; clear K) | (with_reducible first | refine rgn_nil (by first | trivial | kernel_rfl) ?_ | refine AWP.seq ?_ | refine tX hC hP (by kernel_rfl) ?_ | refine aX hC hM hP (by kernel_rfl) ?_ | refine AWP.skip ?_ | refine AWP.label ?_ | refine AWP.exit ?_ | refine AWP.block ?_ | refine cTa ?_ | refine cFa ?_) | simp only [qS, Nat.reduceEqDiff, ↓reduceIte]))
      refine AWP.loop (fun w : Nat × Nat => [(11, ⟨0, .val (.int .i64 (w.1 + 1 : Nat))⟩), (10, ⟨w.2, .own (.sl true 2 (intL (bobL m (ahL p.toNat m l.length) l l.length w.1)))⟩), (9, ⟨1, .own (.sl true 2 (intL (ahL p.toNat m l.length)))⟩), (1, ⟨0, .val (.int .i64 m)⟩), (2, ⟨0, .val (.sl false 2 (intL l))⟩), (6, ⟨1, .own (.box 31 (.agg [.int .i64 0, .nil]))⟩)]) (fun w => w.1 ≤ l.length) (fun w => l.length - w.1) (0, 1) (Nat.zero_le _) (fun i => rfl) ?_ (fun w hw => ?_)
      · simp [Sub, lk, bobL]
      · obtain ⟨c, v⟩ := w
        simp only at hw ⊢
        by_cases hc : c < l.length
        · have hx := at_bound hd.2.2.1 (by omega) c
          have ho := bobL_facts (m := m) (by omega) (ahL p.toNat m l.length) l l.length c
          have hG := c_spec_l15Block m (at' l c) (ahL p.toNat m l.length) (c + 1) l.length (by omega) (by omega) (ahL_num (by omega) _ _) (ahL_length _ _ _) hx (by omega) (by omega) (by omega)
          have hT := c_spec_l02Times m (bobL m (ahL p.toNat m l.length) l l.length c) (blL m (ahL p.toNat m l.length) (at' l c) (c + 1) l.length) l.length (by omega) (by omega) ho.2 (blL_num (by omega) _ _ _ _) (by omega) (by rw [blL_length]; omega) (by omega)
          (repeat (first | ((with_reducible refine rgn_cons rfl (fun K hK => ?_)); simp only [go_sem, seval, ↓reduceIte, decide_true, decide_false, show ((c + 1 : Nat) : Int) ≤ (l.length : Int) by omega, wid (((c + 1 : Nat) : Int) - 1) (by omega) (by omega), show (0 : Int) ≤ ((c + 1 : Nat) : Int) - 1 by omega, show ((c + 1 : Nat) : Int) - 1 < (l.length : Int) by omega, show (((c + 1 : Nat) : Int) - 1).toNat = c by omega, intL_getD l c hc, show l.getD c 0 = at' l c from rfl, wid (((c + 1 : Nat) : Int) + 1) (by omega) (by omega)]; (first | refine hK _ _ _ (by simp only [go_sem, Nat.reduceEqDiff, ↓reduceIte]; rfl) ?_ | refine ⟨_, hG, hK _ _ _ (by simp only [go_sem, Nat.reduceEqDiff, ↓reduceIte]; rfl) ?_⟩ | refine ⟨_, hT, hK _ _ _ (by simp only [go_sem, Nat.reduceEqDiff, ↓reduceIte]; rfl) ?_⟩); clear hK; clear K) | (with_reducible first | refine rgn_nil (by first | trivial | kernel_rfl) ?_ | refine AWP.seq ?_ | refine tX hC hP (by kernel_rfl) ?_ | refine aX hC hM hP (by kernel_rfl) ?_ | refine AWP.skip ?_ | refine AWP.label ?_ | refine AWP.exit ?_ | refine AWP.block ?_ | refine cTa ?_ | refine cFa ?_) | simp only [qS, Nat.reduceEqDiff, ↓reduceIte]))
          exact ⟨(c + 1, v + 1), by simp only; omega, by simp only; omega, by simp [Sub, lk, bobL]⟩
        · (repeat (first | ((with_reducible refine rgn_cons rfl (fun K hK => ?_)); simp only [go_sem, seval, ↓reduceIte, decide_true, decide_false, show ¬ ((c + 1 : Nat) : Int) ≤ (l.length : Int) by omega, decide_false]; (first | refine hK _ _ _ (by simp only [go_sem, Nat.reduceEqDiff, ↓reduceIte]; rfl) ?_ | refine ⟨_, c_spec_l02Make m _, hK _ _ _ (by simp only [go_sem, Nat.reduceEqDiff, ↓reduceIte]; rfl) ?_⟩); clear hK; clear K) | (with_reducible first | refine rgn_nil (by first | trivial | kernel_rfl) ?_ | refine AWP.seq ?_ | refine tX hC hP (by kernel_rfl) ?_ | refine aX hC hM hP (by kernel_rfl) ?_ | refine AWP.skip ?_ | refine AWP.label ?_ | refine AWP.exit ?_ | refine AWP.block ?_ | refine cTa ?_ | refine cFa ?_) | simp only [qS, Nat.reduceEqDiff, ↓reduceIte]))
          (refine AWP.ret ?_; refine retOk2 (by simp only [go_sem, seval, ↓reduceIte, decide_true, decide_false]; rfl) (by simp only [go_sem, seval, ↓reduceIte, decide_true, decide_false]; rfl) (by simp) ?_)
          rw [h, show c = l.length by omega]
set_option maxHeartbeats 1000000 in
theorem c_spec_BigOfBlocks_no (p m : Int) (l : List Int) (hl : l.length ≤ 1099511627776) (h : ¬ bobC p m l = 0) : AFn Tryz.prog 14 [.int .i64 p, .int .i64 m, .sl false 2 (intL l)] (.tup [.agg [.int .i64 0, .nil], .int .i64 (bobC p m l)]) := by
  refine AFn.of' ttOk (by decide) Tryz.func14 Tryz.ntmps14 (by rw [Tryz.results14]) (by rfl) (by rfl) (by simp) (by decide) (by simp only [go_sem, Nat.reduceAdd, ↓reduceIte]; rfl) mixed (fun C hP hM hC => ?_)
  cases ht : typB p with
  | false =>
    (repeat (first | ((with_reducible refine rgn_cons rfl (fun K hK => ?_)); simp only [go_sem, seval, ↓reduceIte, decide_true, decide_false, ht]; (first | refine hK _ _ _ (by simp only [go_sem, Nat.reduceEqDiff, ↓reduceIte]; rfl) ?_ | refine ⟨_, c_spec_l09Prime p, hK _ _ _ (by simp only [go_sem, Nat.reduceEqDiff, ↓reduceIte]; rfl) ?_⟩); clear hK; clear K) | (with_reducible first | refine rgn_nil (by first | trivial | kernel_rfl) ?_ | refine AWP.seq ?_ | refine tX hC hP (by kernel_rfl) ?_ | refine aX hC hM hP (by kernel_rfl) ?_ | refine AWP.skip ?_ | refine AWP.label ?_ | refine AWP.exit ?_ | refine AWP.block ?_ | refine cTa ?_ | refine cFa ?_) | simp only [qS, Nat.reduceEqDiff, ↓reduceIte]))
    (refine AWP.ret ?_; refine retOk2 (by simp only [go_sem, seval, ↓reduceIte, decide_true, decide_false]; rfl) (by simp only [go_sem, seval, ↓reduceIte, decide_true, decide_false]; rfl) (by simp) ?_)
    simp [bobC, ht]
  | true =>
    by_cases hm : 2 ≤ m ∧ m ≤ 10000
    · by_cases hn : 1 ≤ (l.length : Int) ∧ (l.length : Int) ≤ 10
      · (repeat (first | ((with_reducible refine rgn_cons rfl (fun K hK => ?_)); simp only [go_sem, seval, ↓reduceIte, decide_true, decide_false, ht, and_yes hm, and_yes hn]; (first | refine hK _ _ _ (by simp only [go_sem, Nat.reduceEqDiff, ↓reduceIte]; rfl) ?_ | refine ⟨_, c_spec_l09Prime p, hK _ _ _ (by simp only [go_sem, Nat.reduceEqDiff, ↓reduceIte]; rfl) ?_⟩ | refine ⟨_, c_spec_l01In _ _ _, hK _ _ _ (by simp only [go_sem, Nat.reduceEqDiff, ↓reduceIte]; rfl) ?_⟩); clear hK; clear K) | (with_reducible first | refine rgn_nil (by first | trivial | kernel_rfl) ?_ | refine AWP.seq ?_ | refine tX hC hP (by kernel_rfl) ?_ | refine aX hC hM hP (by kernel_rfl) ?_ | refine AWP.skip ?_ | refine AWP.label ?_ | refine AWP.exit ?_ | refine AWP.block ?_ | refine cTa ?_ | refine cFa ?_) | simp only [qS, Nat.reduceEqDiff, ↓reduceIte]))
        refine AWP.loop (fun i : Nat => [(8, ⟨0, .val (.int .i64 i)⟩), (0, ⟨0, .val (.int .i64 p)⟩), (1, ⟨0, .val (.int .i64 m)⟩), (2, ⟨0, .val (.sl false 2 (intL l))⟩), (6, ⟨1, .own (.box 31 (.agg [.int .i64 0, .nil]))⟩)]) (fun i => i ≤ l.length ∧ ∀ j, j < i → 0 ≤ at' l j ∧ at' l j < m) (fun i => l.length - i) 0 ⟨Nat.zero_le _, fun j hj => absurd hj (Nat.not_lt_zero _)⟩ (fun i => rfl) ?_ (fun i hi => ?_)
        · simp [Sub, lk]
        · by_cases hlt : i < l.length
          · by_cases hx2 : (0 : Int) ≤ at' l i ∧ at' l i ≤ m - 1
            · (repeat (first | ((with_reducible refine rgn_cons rfl (fun K hK => ?_)); simp only [go_sem, seval, ↓reduceIte, decide_true, decide_false, show (i : Int) < (l.length : Int) by omega, decide_true, Int.toNat_natCast, Int.natCast_nonneg, intL_getD l i hlt, show l.getD i 0 = at' l i from rfl, wid (m - 1) (by omega) (by omega), and_yes hx2, wid ((i : Int) + 1) (by omega) (by omega)]; (first | refine hK _ _ _ (by simp only [go_sem, Nat.reduceEqDiff, ↓reduceIte]; rfl) ?_ | refine ⟨_, c_spec_l01In _ _ _, hK _ _ _ (by simp only [go_sem, Nat.reduceEqDiff, ↓reduceIte]; rfl) ?_⟩); clear hK; clear K) | (with_reducible first | refine rgn_nil (by first | trivial | kernel_rfl) ?_ | refine AWP.seq ?_ | refine tX hC hP (by kernel_rfl) ?_ | refine aX hC hM hP (by kernel_rfl) ?_ | refine AWP.skip ?_ | refine AWP.label ?_ | refine AWP.exit ?_ | refine AWP.block ?_ | refine cTa ?_ | refine cFa ?_) | simp only [qS, Nat.reduceEqDiff, ↓reduceIte]))
              refine ⟨i + 1, ⟨by omega, fun j hj => ?_⟩, by omega, by simp [Sub, lk]⟩
              by_cases e : j = i
              · subst e; omega
              · exact hi.2 j (by omega)
            · (repeat (first | ((with_reducible refine rgn_cons rfl (fun K hK => ?_)); simp only [go_sem, seval, ↓reduceIte, decide_true, decide_false, show (i : Int) < (l.length : Int) by omega, decide_true, Int.toNat_natCast, Int.natCast_nonneg, intL_getD l i hlt, show l.getD i 0 = at' l i from rfl, wid (m - 1) (by omega) (by omega), and_no hx2]; (first | refine hK _ _ _ (by simp only [go_sem, Nat.reduceEqDiff, ↓reduceIte]; rfl) ?_ | refine ⟨_, c_spec_l01In _ _ _, hK _ _ _ (by simp only [go_sem, Nat.reduceEqDiff, ↓reduceIte]; rfl) ?_⟩); clear hK; clear K) | (with_reducible first | refine rgn_nil (by first | trivial | kernel_rfl) ?_ | refine AWP.seq ?_ | refine tX hC hP (by kernel_rfl) ?_ | refine aX hC hM hP (by kernel_rfl) ?_ | refine AWP.skip ?_ | refine AWP.label ?_ | refine AWP.exit ?_ | refine AWP.block ?_ | refine cTa ?_ | refine cFa ?_) | simp only [qS, Nat.reduceEqDiff, ↓reduceIte]))
              (refine AWP.ret ?_; refine retOk2 (by simp only [go_sem, seval, ↓reduceIte, decide_true, decide_false]; rfl) (by simp only [go_sem, seval, ↓reduceIte, decide_true, decide_false]; rfl) (by simp) ?_)
              rw [bobC, if_neg]
              rintro ⟨_, h2⟩
              have := at_bound (degC_zero h2).2.2.1 (by omega) i
              omega
          · have h3 : ∀ x ∈ l, 0 ≤ x ∧ x < m := by
              intro x hx
              obtain ⟨j, hj, rfl⟩ := List.getElem_of_mem hx
              have := hi.2 j (by omega)
              rwa [at', getD_at l j hj] at this
            have h4 := degC_of hm (by omega) h3
            have hw : powB p.toNat m.toNat = false := by
              cases hw : powB p.toNat m.toNat with
              | true => exact absurd (by simp [bobC, ht, h4, pwC, hw]) h
              | false => rfl
            (repeat (first | ((with_reducible refine rgn_cons rfl (fun K hK => ?_)); simp only [go_sem, seval, ↓reduceIte, decide_true, decide_false, show ¬ (i : Int) < (l.length : Int) by omega, decide_false, hw]; (first | refine hK _ _ _ (by simp only [go_sem, Nat.reduceEqDiff, ↓reduceIte]; rfl) ?_ | refine ⟨_, c_spec_l09PowerOf_i p m ht hm, hK _ _ _ (by simp only [go_sem, Nat.reduceEqDiff, ↓reduceIte]; rfl) ?_⟩); clear hK; clear K) | (with_reducible first | refine rgn_nil (by first | trivial | kernel_rfl) ?_ | refine AWP.seq ?_ | refine tX hC hP (by kernel_rfl) ?_ | refine aX hC hM hP (by kernel_rfl) ?_ | refine AWP.skip ?_ | refine AWP.label ?_ | refine AWP.exit ?_ | refine AWP.block ?_ | refine cTa ?_ | refine cFa ?_) | simp only [qS, Nat.reduceEqDiff, ↓reduceIte]))
            (refine AWP.ret ?_; refine retOk2 (by simp only [go_sem, seval, ↓reduceIte, decide_true, decide_false]; rfl) (by simp only [go_sem, seval, ↓reduceIte, decide_true, decide_false]; rfl) (by simp) ?_)
            simp [bobC, ht, h4, pwC, hw]
      · (repeat (first | ((with_reducible refine rgn_cons rfl (fun K hK => ?_)); simp only [go_sem, seval, ↓reduceIte, decide_true, decide_false, ht, and_yes hm, and_no hn]; (first | refine hK _ _ _ (by simp only [go_sem, Nat.reduceEqDiff, ↓reduceIte]; rfl) ?_ | refine ⟨_, c_spec_l09Prime p, hK _ _ _ (by simp only [go_sem, Nat.reduceEqDiff, ↓reduceIte]; rfl) ?_⟩ | refine ⟨_, c_spec_l01In _ _ _, hK _ _ _ (by simp only [go_sem, Nat.reduceEqDiff, ↓reduceIte]; rfl) ?_⟩); clear hK; clear K) | (with_reducible first | refine rgn_nil (by first | trivial | kernel_rfl) ?_ | refine AWP.seq ?_ | refine tX hC hP (by kernel_rfl) ?_ | refine aX hC hM hP (by kernel_rfl) ?_ | refine AWP.skip ?_ | refine AWP.label ?_ | refine AWP.exit ?_ | refine AWP.block ?_ | refine cTa ?_ | refine cFa ?_) | simp only [qS, Nat.reduceEqDiff, ↓reduceIte]))
        (refine AWP.ret ?_; refine retOk2 (by simp only [go_sem, seval, ↓reduceIte, decide_true, decide_false]; rfl) (by simp only [go_sem, seval, ↓reduceIte, decide_true, decide_false]; rfl) (by simp) ?_)
        rw [bobC, if_neg]
        rintro ⟨_, h2⟩
        have := degC_zero h2
        omega
    · (repeat (first | ((with_reducible refine rgn_cons rfl (fun K hK => ?_)); simp only [go_sem, seval, ↓reduceIte, decide_true, decide_false, ht, and_no hm]; (first | refine hK _ _ _ (by simp only [go_sem, Nat.reduceEqDiff, ↓reduceIte]; rfl) ?_ | refine ⟨_, c_spec_l09Prime p, hK _ _ _ (by simp only [go_sem, Nat.reduceEqDiff, ↓reduceIte]; rfl) ?_⟩ | refine ⟨_, c_spec_l01In _ _ _, hK _ _ _ (by simp only [go_sem, Nat.reduceEqDiff, ↓reduceIte]; rfl) ?_⟩); clear hK; clear K) | (with_reducible first | refine rgn_nil (by first | trivial | kernel_rfl) ?_ | refine AWP.seq ?_ | refine tX hC hP (by kernel_rfl) ?_ | refine aX hC hM hP (by kernel_rfl) ?_ | refine AWP.skip ?_ | refine AWP.label ?_ | refine AWP.exit ?_ | refine AWP.block ?_ | refine cTa ?_ | refine cFa ?_) | simp only [qS, Nat.reduceEqDiff, ↓reduceIte]))
      (refine AWP.ret ?_; refine retOk2 (by simp only [go_sem, seval, ↓reduceIte, decide_true, decide_false]; rfl) (by simp only [go_sem, seval, ↓reduceIte, decide_true, decide_false]; rfl) (by simp) ?_)
      rw [bobC, if_neg]
      rintro ⟨_, h2⟩
      have := degC_zero h2
      omega
end Go.Proofs.YtdnaecmcbkfpaaaGreat
