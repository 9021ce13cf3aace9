/-
  ExponentialOfWitt.
-/
import Derived.Test.YtdnaecmcbkfpaaaGreatHk
namespace Go.Proofs.YtdnaecmcbkfpaaaGreat
open Go.RowKit
set_option linter.unusedSimpArgs false
set_option linter.unusedVariables false
set_option linter.unusedSectionVars false
set_option maxRecDepth 20000
-- ExponentialOfWitt.
def expC (p m d : Int) (l : List Int) : Int := if isWt p m l = true then (if 1 ≤ d ∧ d ≤ 10 then pwC p m else 2) else 1
theorem expC_zero {p m d : Int} {l : List Int} (h : expC p m d l = 0) : isWt p m l = true ∧ (1 ≤ d ∧ d ≤ 10) ∧ powB p.toNat m.toNat = true := by
  unfold expC at h
  split at h
  · rename_i h1
    split at h
    · rename_i h2; exact ⟨h1, h2, pwC_zero h⟩
    · cases h
  · cases h
/-- The product of the blocks of the first components. -/
def expL (m : Int) (e l : List Int) (p d : Nat) : Nat → List Int
  | 0 => oneL d
  | k + 1 => if p ^ k ≤ d then timesL m (expL m e l p d k) (blL m e (at' l k) (p ^ k) d) d else expL m e l p d k
theorem expL_facts {m : Int} (hm : 1 < m) (e l : List Int) (p d : Nat) : ∀ k, (expL m e l p d k).length = d + 1 ∧ ∀ x ∈ expL m e l p d k, 0 ≤ x ∧ x < m
  | 0 => ⟨oneL_length d, oneL_num d hm⟩
  | k + 1 => by
    unfold expL
    split
    · exact ⟨timesL_length _ _ _ _, timesL_num _ _ _ _ (by omega)⟩
    · exact expL_facts hm e l p d k
theorem expL_end {m : Int} {e l : List Int} {p d i : Nat} (hp : 2 ≤ p) (h : d < p ^ i) : ∀ k, expL m e l p d (i + k) = expL m e l p d i
  | 0 => rfl
  | k + 1 => by
    have h2 : p ^ i ≤ p ^ (i + k) := Nat.pow_le_pow_right (by omega) (by omega)
    rw [show i + (k + 1) = (i + k) + 1 by omega, expL, if_neg (by omega), expL_end hp h k]
theorem pow_len {p k : Nat} (hp : p ≤ 7) (hk : k ≤ 5) : p ^ k ≤ 16807 := Nat.le_trans (Nat.pow_le_pow_left hp _) (Nat.le_trans (Nat.pow_le_pow_right (by decide) hk) (by decide))
set_option maxHeartbeats 2000000 in
theorem c_impl_ExponentialOfWitt_nat (P D : Nat) (m : Int) (l : List Int) (hl : l.length ≤ 1099511627776) (h : expC P m D l = 0) : AFn Tryz.prog 18 [.agg [.int .i64 P, .int .i64 m, .sl false 2 (intL l)], .int .i64 D] (.tup [.agg [.int .i64 m, .sl true 2 (intL (expL m (ahL P m D) l P D l.length))], .int .i64 0]) := by
  refine AFn.of' ttOk (by decide) Tryz.func18 Tryz.ntmps18 (by rw [Tryz.results18]) (by rfl) (by rfl) (by simp) (by decide) (by simp only [go_sem, Nat.reduceAdd, ↓reduceIte]; rfl) mixed (fun C hP hM hC => ?_)
  have hz := expC_zero h
  have hw := isWt_of hz.1
  have hp := typB_of hw.1
  rw [Int.toNat_natCast] at hp
  have hb := hp.1.b
  have e1 : (1 : Int) % m = 1 := Int.emod_eq_of_lt (by omega) (by omega)
  have h0 := c_impl_Series_constant m (ahL P m D) 1 (by rw [ahL_length]; omega) (by rw [ahL_length]; omega) (by omega) (by omega)
  rw [e1, ahL_length, oneL_of] at h0
  (repeat (first | ((with_reducible refine rgn_cons rfl (fun K hK => ?_)); simp only [go_sem, seval, ↓reduceIte, decide_true, decide_false, hz.1, and_yes hz.2.1, hz.2.2]; (first | refine hK _ _ _ (by simp only [go_sem, Nat.reduceEqDiff, ↓reduceIte]; rfl) ?_ | refine ⟨_, c_impl_IsWitt P m l hl, hK _ _ _ (by simp only [go_sem, Nat.reduceEqDiff, ↓reduceIte]; rfl) ?_⟩ | refine ⟨_, c_impl_in _ _ _, hK _ _ _ (by simp only [go_sem, Nat.reduceEqDiff, ↓reduceIte]; rfl) ?_⟩ | refine ⟨_, c_impl_isPowerOf_i P m hw.1 ⟨hw.2.1, hw.2.2.1⟩, hK _ _ _ (by simp only [go_sem, Nat.reduceEqDiff, ↓reduceIte]; rfl) ?_⟩ | refine ⟨_, c_impl_artinHasseSeries P m D hp.1 (by omega) (by omega) (by omega), hK _ _ _ (by simp only [go_sem, Nat.reduceEqDiff, ↓reduceIte]; rfl) ?_⟩ | refine ⟨_, h0, hK _ _ _ (by simp only [go_sem, Nat.reduceEqDiff, ↓reduceIte]; rfl) ?_⟩); clear hK; clear K) | (with_reducible first | refine rgn_nil (by first | trivial | kernel_rfl) ?_ | refine AWP.seq ?_ | refine tX hC hP (by kernel_rfl) ?_ | refine aX hC hM hP (by kernel_rfl) ?_ | refine AWP.skip ?_ | refine AWP.label ?_ | refine AWP.exit ?_ | refine AWP.block ?_ | refine cTa ?_ | refine cFa ?_) | simp only [qS, Nat.reduceEqDiff, ↓reduceIte]))
  refine AWP.loop (fun w : Nat × Nat => [(40, ⟨0, .val (.int .i64 w.1)⟩), (39, ⟨0, .val (.int .i64 l.length)⟩), (38, ⟨0, .val (.sl false 2 (intL l))⟩), (7, ⟨w.2, .own (.box 31 (.agg [.int .i64 m, .sl true 2 (intL (expL m (ahL P m D) l P D w.1))]))⟩), (6, ⟨2, .own (.box 31 (.agg [.int .i64 m, .sl true 2 (intL (ahL P m D))]))⟩), (2, ⟨1, .own (.box 42 (.agg [.int .i64 P, .int .i64 m, .sl false 2 (intL l)]))⟩), (1, ⟨0, .val (.int .i64 D)⟩), (4, ⟨1, .own (.box 31 (.agg [.int .i64 0, .nil]))⟩)]) (fun w => w.1 ≤ l.length) (fun w => l.length - w.1) (0, 2) (Nat.zero_le _) (fun i => rfl) ?_ (fun w hw2 => ?_)
  · simp [Sub, lk, expL]
  · obtain ⟨c, v⟩ := w
    simp only at hw2 ⊢
    by_cases hc2 : c < l.length
    · have hS := c_impl_scale P c hb.2 (by omega)
      have hpb := pow_len hb.2 (show c ≤ 5 by omega)
      have hp0 : 0 < P ^ c := Nat.pow_pos (by omega)
      by_cases hle : P ^ c ≤ D
      · have hx := at_bound hw.2.2.2.2.2 (by omega) c
        have ho := expL_facts (m := m) (by omega) (ahL P m D) l P D c
        have hG := c_impl_block m (at' l c) (ahL P m D) (P ^ c) D (by omega) (by omega) (ahL_num (by omega) _ _) (ahL_length _ _ _) hx hp0 hle (by omega)
        have hT := c_impl_Series_times m (expL m (ahL P m D) l P D c) (blL m (ahL P m D) (at' l c) (P ^ c) D) D (by omega) (by omega) ho.2 (blL_num (by omega) _ _ _ _) ho.1 (blL_length _ _ _ _ _) (by omega)
        have e2 : expL m (ahL P m D) l P D (c + 1) = timesL m (expL m (ahL P m D) l P D c) (blL m (ahL P m D) (at' l c) (P ^ c) D) D := by rw [expL, if_pos hle]
        (repeat (first | ((with_reducible refine rgn_cons rfl (fun K hK => ?_)); simp only [go_sem, seval, ↓reduceIte, decide_true, decide_false, show (c : Int) < (l.length : Int) by omega, decide_true, show ((P ^ c : Nat) : Int) ≤ (D : Int) by omega, Int.toNat_natCast, Int.natCast_nonneg, intL_getD l c hc2, show l.getD c 0 = at' l c from rfl, wid ((c : Int) + 1) (by omega) (by omega)]; (first | refine hK _ _ _ (by simp only [go_sem, Nat.reduceEqDiff, ↓reduceIte]; rfl) ?_ | refine ⟨_, hS, hK _ _ _ (by simp only [go_sem, Nat.reduceEqDiff, ↓reduceIte]; rfl) ?_⟩ | refine ⟨_, hG, hK _ _ _ (by simp only [go_sem, Nat.reduceEqDiff, ↓reduceIte]; rfl) ?_⟩ | refine ⟨_, hT, hK _ _ _ (by simp only [go_sem, Nat.reduceEqDiff, ↓reduceIte]; rfl) ?_⟩); clear hK; clear K) | (with_reducible first | refine rgn_nil (by first | trivial | kernel_rfl) ?_ | refine AWP.seq ?_ | refine tX hC hP (by kernel_rfl) ?_ | refine aX hC hM hP (by kernel_rfl) ?_ | refine AWP.skip ?_ | refine AWP.label ?_ | refine AWP.exit ?_ | refine AWP.block ?_ | refine cTa ?_ | refine cFa ?_) | simp only [qS, Nat.reduceEqDiff, ↓reduceIte]))
        exact ⟨(c + 1, v + 1), by simp only; omega, by simp only; omega, by simp only [e2]; simp [Sub, lk]⟩
      · have e2 : expL m (ahL P m D) l P D (c + 1) = expL m (ahL P m D) l P D c := by rw [expL, if_neg hle]
        (repeat (first | ((with_reducible refine rgn_cons rfl (fun K hK => ?_)); simp only [go_sem, seval, ↓reduceIte, decide_true, decide_false, show (c : Int) < (l.length : Int) by omega, decide_true, decide_false, show ¬ ((P ^ c : Nat) : Int) ≤ (D : Int) by omega, Int.toNat_natCast, Int.natCast_nonneg, intL_getD l c hc2, show l.getD c 0 = at' l c from rfl, wid ((c : Int) + 1) (by omega) (by omega)]; (first | refine hK _ _ _ (by simp only [go_sem, Nat.reduceEqDiff, ↓reduceIte]; rfl) ?_ | refine ⟨_, hS, hK _ _ _ (by simp only [go_sem, Nat.reduceEqDiff, ↓reduceIte]; rfl) ?_⟩); clear hK; clear K) | (with_reducible first | refine rgn_nil (by first | trivial | kernel_rfl) ?_ | refine AWP.seq ?_ | refine tX hC hP (by kernel_rfl) ?_ | refine aX hC hM hP (by kernel_rfl) ?_ | refine AWP.skip ?_ | refine AWP.label ?_ | refine AWP.exit ?_ | refine AWP.block ?_ | refine cTa ?_ | refine cFa ?_) | simp only [qS, Nat.reduceEqDiff, ↓reduceIte]))
        exact ⟨(c + 1, v), by simp only; omega, by simp only; omega, by simp only [e2]; simp [Sub, lk]⟩
    · (repeat (first | ((with_reducible refine rgn_cons rfl (fun K hK => ?_)); simp only [go_sem, seval, ↓reduceIte, decide_true, decide_false, show ¬ (c : Int) < (l.length : Int) by omega, decide_false]; (refine hK _ _ _ (by simp only [go_sem, Nat.reduceEqDiff, ↓reduceIte]; rfl) ?_); clear hK; clear K) | (with_reducible first | refine rgn_nil (by first | trivial | kernel_rfl) ?_ | refine AWP.seq ?_ | refine tX hC hP (by kernel_rfl) ?_ | refine aX hC hM hP (by kernel_rfl) ?_ | refine AWP.skip ?_ | refine AWP.label ?_ | refine AWP.exit ?_ | refine AWP.block ?_ | refine cTa ?_ | refine cFa ?_) | simp only [qS, Nat.reduceEqDiff, ↓reduceIte]))
      (refine AWP.ret ?_; refine retOk2 (by simp only [go_sem, seval, ↓reduceIte, decide_true, decide_false]; rfl) (by simp only [go_sem, seval, ↓reduceIte, decide_true, decide_false]; rfl) (by simp) ?_)
      rw [show c = l.length by omega]
set_option maxHeartbeats 2000000 in
theorem c_spec_ExponentialOfWitt_nat (P D : Nat) (m : Int) (l : List Int) (hl : l.length ≤ 1099511627776) (h : expC P m D l = 0) : AFn Tryz.prog 19 [.agg [.int .i64 P, .int .i64 m, .sl false 2 (intL l)], .int .i64 D] (.tup [.agg [.int .i64 m, .sl true 2 (intL (expL m (ahL P m D) l P D l.length))], .int .i64 0]) := by
  refine AFn.of' ttOk (by decide) Tryz.func19 Tryz.ntmps19 (by rw [Tryz.results19]) (by rfl) (by rfl) (by simp) (by decide) (by simp only [go_sem, Nat.reduceAdd, ↓reduceIte]; rfl) mixed (fun C hP hM hC => ?_)
  have hz := expC_zero h
  have hw := isWt_of hz.1
  have hp := typB_of hw.1
  rw [Int.toNat_natCast] at hp
  have hb := hp.1.b
  have h0 : 0 < (tab (D + 1) (fun _ => 0)).length := by rw [tab_length]; omega
  (repeat (first | ((with_reducible refine rgn_cons rfl (fun K hK => ?_)); simp only [go_sem, seval, ↓reduceIte, decide_true, decide_false, hz.1, and_yes hz.2.1, hz.2.2, wid ((D : Int) + 1) (by omega) (by omega), show (0 : Int) ≤ (D : Int) + 1 by omega, show ((D : Int) + 1).toNat = D + 1 by omega, show (D : Int) + 1 ≤ 1099511627776 by omega, intL_replicate, tab_zero, tab_length, Int.le_refl, Int.toNat_zero, show (0 : Int) < ((D + 1 : Nat) : Int) by omega, intL_get _ _ h0, List.take_zero, Nat.zero_mul, intL_modify, tab_set, oneL_of]; (first | refine hK _ _ _ (by simp only [go_sem, Nat.reduceEqDiff, ↓reduceIte]; rfl) ?_ | refine ⟨_, c_spec_l13Is P m l hl, hK _ _ _ (by simp only [go_sem, Nat.reduceEqDiff, ↓reduceIte]; rfl) ?_⟩ | refine ⟨_, c_spec_l01In _ _ _, hK _ _ _ (by simp only [go_sem, Nat.reduceEqDiff, ↓reduceIte]; rfl) ?_⟩ | refine ⟨_, c_spec_l09PowerOf_i P m hw.1 ⟨hw.2.1, hw.2.2.1⟩, hK _ _ _ (by simp only [go_sem, Nat.reduceEqDiff, ↓reduceIte]; rfl) ?_⟩ | refine ⟨_, c_spec_l15Series P m D hp.1 (by omega) (by omega) (by omega), hK _ _ _ (by simp only [go_sem, Nat.reduceEqDiff, ↓reduceIte]; rfl) ?_⟩); clear hK; clear K) | (with_reducible first | refine rgn_nil (by first | trivial | kernel_rfl) ?_ | refine AWP.seq ?_ | refine tX hC hP (by kernel_rfl) ?_ | refine aX hC hM hP (by kernel_rfl) ?_ | refine AWP.skip ?_ | refine AWP.label ?_ | refine AWP.exit ?_ | refine AWP.block ?_ | refine cTa ?_ | refine cFa ?_) | simp only [qS, Nat.reduceEqDiff, ↓reduceIte]))
  refine AWP.loop (fun w : Nat × Nat => [(9, ⟨0, .val (.int .i64 w.1)⟩), (8, ⟨w.2, .own (.sl true 2 (intL (expL m (ahL P m D) l P D w.1)))⟩), (7, ⟨0, .val (.int .i64 (P ^ w.1 : Nat))⟩), (6, ⟨1, .own (.sl true 2 (intL (ahL P m D)))⟩), (2, ⟨1, .own (.box 42 (.agg [.int .i64 P, .int .i64 m, .sl false 2 (intL l)]))⟩), (1, ⟨0, .val (.int .i64 D)⟩), (4, ⟨1, .own (.box 31 (.agg [.int .i64 0, .nil]))⟩)]) (fun w => w.1 ≤ l.length) (fun w => l.length - w.1) (0, 1) (Nat.zero_le _) (fun i => rfl) ?_ (fun w hw2 => ?_)
  · simp [Sub, lk, expL]
  · obtain ⟨c, v⟩ := w
    simp only at hw2 ⊢
    by_cases hc2 : c < l.length
    · have hpb := pow_len hb.2 (show c + 1 ≤ 5 by omega)
      have hp0 : 0 < P ^ c := Nat.pow_pos (by omega)
      by_cases hle : P ^ c ≤ D
      · have hx := at_bound hw.2.2.2.2.2 (by omega) c
        have ho := expL_facts (m := m) (by omega) (ahL P m D) l P D c
        have hG := c_spec_l15Block m (at' l c) (ahL P m D) (P ^ c) D (by omega) (by omega) (ahL_num (by omega) _ _) (ahL_length _ _ _) hx hp0 (by omega) (by omega)
        have hT := c_spec_l02Times m (expL m (ahL P m D) l P D c) (blL m (ahL P m D) (at' l c) (P ^ c) D) D (by omega) (by omega) ho.2 (blL_num (by omega) _ _ _ _) (by omega) (by rw [blL_length]; omega) (by omega)
        have e2 : expL m (ahL P m D) l P D (c + 1) = timesL m (expL m (ahL P m D) l P D c) (blL m (ahL P m D) (at' l c) (P ^ c) D) D := by rw [expL, if_pos hle]
        have u := widM (P ^ c * P) (Nat.le_trans (Nat.le_of_eq (Nat.pow_succ ..).symm) (Nat.le_trans hpb (by decide)))
        (repeat (first | ((with_reducible refine rgn_cons rfl (fun K hK => ?_)); simp only [go_sem, seval, ↓reduceIte, decide_true, decide_false, show (c : Int) < (l.length : Int) by omega, decide_true, show ((P ^ c : Nat) : Int) ≤ (D : Int) by omega, Int.toNat_natCast, Int.natCast_nonneg, intL_getD l c hc2, show l.getD c 0 = at' l c from rfl, ← Int.natCast_mul, u, wid ((c : Int) + 1) (by omega) (by omega)]; (first | refine hK _ _ _ (by simp only [go_sem, Nat.reduceEqDiff, ↓reduceIte]; rfl) ?_ | refine ⟨_, hG, hK _ _ _ (by simp only [go_sem, Nat.reduceEqDiff, ↓reduceIte]; rfl) ?_⟩ | refine ⟨_, hT, hK _ _ _ (by simp only [go_sem, Nat.reduceEqDiff, ↓reduceIte]; rfl) ?_⟩); clear hK; clear K) | (with_reducible first | refine rgn_nil (by first | trivial | kernel_rfl) ?_ | refine AWP.seq ?_ | refine tX hC hP (by kernel_rfl) ?_ | refine aX hC hM hP (by kernel_rfl) ?_ | refine AWP.skip ?_ | refine AWP.label ?_ | refine AWP.exit ?_ | refine AWP.block ?_ | refine cTa ?_ | refine cFa ?_) | simp only [qS, Nat.reduceEqDiff, ↓reduceIte]))
        exact ⟨(c + 1, v + 1), by simp only; omega, by simp only; omega, by simp only [e2, Nat.pow_succ]; simp [Sub, lk]⟩
      · (repeat (first | ((with_reducible refine rgn_cons rfl (fun K hK => ?_)); simp only [go_sem, seval, ↓reduceIte, decide_true, decide_false, show (c : Int) < (l.length : Int) by omega, decide_true, decide_false, show ¬ ((P ^ c : Nat) : Int) ≤ (D : Int) by omega]; (first | refine hK _ _ _ (by simp only [go_sem, Nat.reduceEqDiff, ↓reduceIte]; rfl) ?_ | refine ⟨_, c_spec_l02Make m _, hK _ _ _ (by simp only [go_sem, Nat.reduceEqDiff, ↓reduceIte]; rfl) ?_⟩); clear hK; clear K) | (with_reducible first | refine rgn_nil (by first | trivial | kernel_rfl) ?_ | refine AWP.seq ?_ | refine tX hC hP (by kernel_rfl) ?_ | refine aX hC hM hP (by kernel_rfl) ?_ | refine AWP.skip ?_ | refine AWP.label ?_ | refine AWP.exit ?_ | refine AWP.block ?_ | refine cTa ?_ | refine cFa ?_) | simp only [qS, Nat.reduceEqDiff, ↓reduceIte]))
        (refine AWP.ret ?_; refine retOk2 (by simp only [go_sem, seval, ↓reduceIte, decide_true, decide_false]; rfl) (by simp only [go_sem, seval, ↓reduceIte, decide_true, decide_false]; rfl) (by simp) ?_)
        rw [show l.length = c + (l.length - c) by omega, expL_end hb.1 (by omega)]
    · (repeat (first | ((with_reducible refine rgn_cons rfl (fun K hK => ?_)); simp only [go_sem, seval, ↓reduceIte, decide_true, decide_false, show ¬ (c : Int) < (l.length : Int) by omega, decide_false]; (first | refine hK _ _ _ (by simp only [go_sem, Nat.reduceEqDiff, ↓reduceIte]; rfl) ?_ | refine ⟨_, c_spec_l02Make m _, hK _ _ _ (by simp only [go_sem, Nat.reduceEqDiff, ↓reduceIte]; rfl) ?_⟩); clear hK; clear K) | (with_reducible first | refine rgn_nil (by first | trivial | kernel_rfl) ?_ | refine AWP.seq ?_ | refine tX hC hP (by kernel_rfl) ?_ | refine aX hC hM hP (by kernel_rfl) ?_ | refine AWP.skip ?_ | refine AWP.label ?_ | refine AWP.exit ?_ | refine AWP.block ?_ | refine cTa ?_ | refine cFa ?_) | simp only [qS, Nat.reduceEqDiff, ↓reduceIte]))
      (refine AWP.ret ?_; refine retOk2 (by simp only [go_sem, seval, ↓reduceIte, decide_true, decide_false]; rfl) (by simp only [go_sem, seval, ↓reduceIte, decide_true, decide_false]; rfl) (by simp) ?_)
      rw [show c = l.length by omega]
set_option maxHeartbeats 1000000 in
theorem c_impl_ExponentialOfWitt_no (p m d : Int) (l : List Int) (hl : l.length ≤ 1099511627776) (h : ¬ expC p m d l = 0) : AFn Tryz.prog 18 [.agg [.int .i64 p, .int .i64 m, .sl false 2 (intL l)], .int .i64 d] (.tup [.agg [.int .i64 0, .nil], .int .i64 (expC p m d l)]) := by
  refine AFn.of' ttOk (by decide) Tryz.func18 Tryz.ntmps18 (by rw [Tryz.results18]) (by rfl) (by rfl) (by simp) (by decide) (by simp only [go_sem, Nat.reduceAdd, ↓reduceIte]; rfl) mixed (fun C hP hM hC => ?_)
  cases hw : isWt p m l with
  | false =>
    (repeat (first | ((with_reducible refine rgn_cons rfl (fun K hK => ?_)); simp only [go_sem, seval, ↓reduceIte, decide_true, decide_false, hw]; (first | refine hK _ _ _ (by simp only [go_sem, Nat.reduceEqDiff, ↓reduceIte]; rfl) ?_ | refine ⟨_, c_impl_IsWitt p m l hl, hK _ _ _ (by simp only [go_sem, Nat.reduceEqDiff, ↓reduceIte]; rfl) ?_⟩); clear hK; clear K) | (with_reducible first | refine rgn_nil (by first | trivial | kernel_rfl) ?_ | refine AWP.seq ?_ | refine tX hC hP (by kernel_rfl) ?_ | refine aX hC hM hP (by kernel_rfl) ?_ | refine AWP.skip ?_ | refine AWP.label ?_ | refine AWP.exit ?_ | refine AWP.block ?_ | refine cTa ?_ | refine cFa ?_) | simp only [qS, Nat.reduceEqDiff, ↓reduceIte]))
    (refine AWP.ret ?_; refine retOk2 (by simp only [go_sem, seval, ↓reduceIte, decide_true, decide_false]; rfl) (by simp only [go_sem, seval, ↓reduceIte, decide_true, decide_false]; rfl) (by simp) ?_)
    simp [expC, hw]
  | true =>
    have hw2 := isWt_of hw
    by_cases hd : 1 ≤ d ∧ d ≤ 10
    · cases hq : powB p.toNat m.toNat with
      | true => exact absurd (by simp [expC, hw, hd, pwC, hq]) h
      | false =>
        (repeat (first | ((with_reducible refine rgn_cons rfl (fun K hK => ?_)); simp only [go_sem, seval, ↓reduceIte, decide_true, decide_false, hw, and_yes hd, hq]; (first | refine hK _ _ _ (by simp only [go_sem, Nat.reduceEqDiff, ↓reduceIte]; rfl) ?_ | refine ⟨_, c_impl_IsWitt p m l hl, hK _ _ _ (by simp only [go_sem, Nat.reduceEqDiff, ↓reduceIte]; rfl) ?_⟩ | refine ⟨_, c_impl_in _ _ _, hK _ _ _ (by simp only [go_sem, Nat.reduceEqDiff, ↓reduceIte]; rfl) ?_⟩ | refine ⟨_, c_impl_isPowerOf_i p m hw2.1 ⟨hw2.2.1, hw2.2.2.1⟩, hK _ _ _ (by simp only [go_sem, Nat.reduceEqDiff, ↓reduceIte]; rfl) ?_⟩); clear hK; clear K) | (with_reducible first | refine rgn_nil (by first | trivial | kernel_rfl) ?_ | refine AWP.seq ?_ | refine tX hC hP (by kernel_rfl) ?_ | refine aX hC hM hP (by kernel_rfl) ?_ | refine AWP.skip ?_ | refine AWP.label ?_ | refine AWP.exit ?_ | refine AWP.block ?_ | refine cTa ?_ | refine cFa ?_) | simp only [qS, Nat.reduceEqDiff, ↓reduceIte]))
        (refine AWP.ret ?_; refine retOk2 (by simp only [go_sem, seval, ↓reduceIte, decide_true, decide_false]; rfl) (by simp only [go_sem, seval, ↓reduceIte, decide_true, decide_false]; rfl) (by simp) ?_)
        simp [expC, hw, hd, pwC, hq]
    · (repeat (first | ((with_reducible refine rgn_cons rfl (fun K hK => ?_)); simp only [go_sem, seval, ↓reduceIte, decide_true, decide_false, hw, and_no hd]; (first | refine hK _ _ _ (by simp only [go_sem, Nat.reduceEqDiff, ↓reduceIte]; rfl) ?_ | refine ⟨_, c_impl_IsWitt p m l hl, hK _ _ _ (by simp only [go_sem, Nat.reduceEqDiff, ↓reduceIte]; rfl) ?_⟩ | refine ⟨_, c_impl_in _ _ _, hK _ _ _ (by simp only [go_sem, Nat.reduceEqDiff, ↓reduceIte]; rfl) ?_⟩); clear hK; clear K) | (with_reducible first | refine rgn_nil (by first | trivial | kernel_rfl) ?_ | refine AWP.seq ?_ | refine tX hC hP (by kernel_rfl) ?_ | refine aX hC hM hP (by kernel_rfl) ?_ | refine AWP.skip ?_ | refine AWP.label ?_ | refine AWP.exit ?_ | refine AWP.block ?_ | refine cTa ?_ | refine cFa ?_) | simp only [qS, Nat.reduceEqDiff, ↓reduceIte]))
      (refine AWP.ret ?_; refine retOk2 (by simp only [go_sem, seval, ↓reduceIte, decide_true, decide_false]; rfl) (by simp only [go_sem, seval, ↓reduceIte, decide_true, decide_false]; rfl) (by simp) ?_)
      simp [expC, hw, hd]
set_option maxHeartbeats 1000000 in
theorem c_spec_ExponentialOfWitt_no (p m d : Int) (l : List Int) (hl : l.length ≤ 1099511627776) (h : ¬ expC p m d l = 0) : AFn Tryz.prog 19 [.agg [.int .i64 p, .int .i64 m, .sl false 2 (intL l)], .int .i64 d] (.tup [.agg [.int .i64 0, .nil], .int .i64 (expC p m d l)]) := by
  refine AFn.of' ttOk (by decide) Tryz.func19 Tryz.ntmps19 (by rw [Tryz.results19]) (by rfl) (by rfl) (by simp) (by decide) (by simp only [go_sem, Nat.reduceAdd, ↓reduceIte]; rfl) mixed (fun C hP hM hC => ?_)
  cases hw : isWt p m l with
  | false =>
    (repeat (first | ((with_reducible refine rgn_cons rfl (fun K hK => ?_)); simp only [go_sem, seval, ↓reduceIte, decide_true, decide_false, hw]; (first | refine hK _ _ _ (by simp only [go_sem, Nat.reduceEqDiff, ↓reduceIte]; rfl) ?_ | refine ⟨_, c_spec_l13Is p m l hl, hK _ _ _ (by simp only [go_sem, Nat.reduceEqDiff, ↓reduceIte]; rfl) ?_⟩); clear hK; clear K) | (with_reducible first | refine rgn_nil (by first | trivial | kernel_rfl) ?_ | refine AWP.seq ?_ | refine tX hC hP (by kernel_rfl) ?_ | refine aX hC hM hP (by kernel_rfl) ?_ | refine AWP.skip ?_ | refine AWP.label ?_ | refine AWP.exit ?_ | refine AWP.block ?_ | refine cTa ?_ | refine cFa ?_) | simp only [qS, Nat.reduceEqDiff, ↓reduceIte]))
    (refine AWP.ret ?_; refine retOk2 (by simp only [go_sem, seval, ↓reduceIte, decide_true, decide_false]; rfl) (by simp only [go_sem, seval, ↓reduceIte, decide_true, decide_false]; rfl) (by simp) ?_)
    simp [expC, hw]
  | true =>
    have hw2 := isWt_of hw
    by_cases hd : 1 ≤ d ∧ d ≤ 10
    · cases hq : powB p.toNat m.toNat with
      | true => exact absurd (by simp [expC, hw, hd, pwC, hq]) h
      | false =>
        (repeat (first | ((with_reducible refine rgn_cons rfl (fun K hK => ?_)); simp only [go_sem, seval, ↓reduceIte, decide_true, decide_false, hw, and_yes hd, hq]; (first | refine hK _ _ _ (by simp only [go_sem, Nat.reduceEqDiff, ↓reduceIte]; rfl) ?_ | refine ⟨_, c_spec_l13Is p m l hl, hK _ _ _ (by simp only [go_sem, Nat.reduceEqDiff, ↓reduceIte]; rfl) ?_⟩ | refine ⟨_, c_spec_l01In _ _ _, hK _ _ _ (by simp only [go_sem, Nat.reduceEqDiff, ↓reduceIte]; rfl) ?_⟩ | refine ⟨_, c_spec_l09PowerOf_i p m hw2.1 ⟨hw2.2.1, hw2.2.2.1⟩, hK _ _ _ (by simp only [go_sem, Nat.reduceEqDiff, ↓reduceIte]; rfl) ?_⟩); clear hK; clear K) | (with_reducible first | refine rgn_nil (by first | trivial | kernel_rfl) ?_ | refine AWP.seq ?_ | refine tX hC hP (by kernel_rfl) ?_ | refine aX hC hM hP (by kernel_rfl) ?_ | refine AWP.skip ?_ | refine AWP.label ?_ | refine AWP.exit ?_ | refine AWP.block ?_ | refine cTa ?_ | refine cFa ?_) | simp only [qS, Nat.reduceEqDiff, ↓reduceIte]))
        (refine AWP.ret ?_; refine retOk2 (by simp only [go_sem, seval, ↓reduceIte, decide_true, decide_false]; rfl) (by simp only [go_sem, seval, ↓reduceIte, decide_true, decide_false]; rfl) (by simp) ?_)
        simp [expC, hw, hd, pwC, hq]
    · (repeat (first | ((with_reducible refine rgn_cons rfl (fun K hK => ?_)); simp only [go_sem, seval, ↓reduceIte, decide_true, decide_false, hw, and_no hd]; (first | refine hK _ _ _ (by simp only [go_sem, Nat.reduceEqDiff, ↓reduceIte]; rfl) ?_ | refine ⟨_, c_spec_l13Is p m l hl, hK _ _ _ (by simp only [go_sem, Nat.reduceEqDiff, ↓reduceIte]; rfl) ?_⟩ | refine ⟨_, c_spec_l01In _ _ _, hK _ _ _ (by simp only [go_sem, Nat.reduceEqDiff, ↓reduceIte]; rfl) ?_⟩); clear hK; clear K) | (with_reducible first | refine rgn_nil (by first | trivial | kernel_rfl) ?_ | refine AWP.seq ?_ | refine tX hC hP (by kernel_rfl) ?_ | refine aX hC hM hP (by kernel_rfl) ?_ | refine AWP.skip ?_ | refine AWP.label ?_ | refine AWP.exit ?_ | refine AWP.block ?_ | refine cTa ?_ | refine cFa ?_) | simp only [qS, Nat.reduceEqDiff, ↓reduceIte]))
      (refine AWP.ret ?_; refine retOk2 (by simp only [go_sem, seval, ↓reduceIte, decide_true, decide_false]; rfl) (by simp only [go_sem, seval, ↓reduceIte, decide_true, decide_false]; rfl) (by simp) ?_)
      simp [expC, hw, hd]
end Go.Proofs.YtdnaecmcbkfpaaaGreat
