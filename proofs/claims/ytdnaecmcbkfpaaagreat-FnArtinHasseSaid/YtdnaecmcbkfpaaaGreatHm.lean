/-
  Blocks of big vectors.
-/
import Derived.Test.YtdnaecmcbkfpaaaGreatHi
import Derived.Test.YtdnaecmcbkfpaaaGreatLo
import Derived.Test.YtdnaecmcbkfpaaaGreatLr
namespace Go.Proofs.YtdnaecmcbkfpaaaGreat
open Go.RowKit
set_option linter.unusedSimpArgs false
set_option linter.unusedVariables false
set_option linter.unusedSectionVars false
set_option maxRecDepth 20000
-- Blocks of big vectors.
/-- What is left after k blocks. -/
def bkR (m : Int) (e l : List Int) (d : Nat) : Nat → List Int
  | 0 => l
  | k + 1 => timesL m (bkR m e l d k) (invS m (blL m e (at' (bkR m e l d k) (k + 1)) (k + 1) d) d) d
theorem bkR_facts {m : Int} (hm : 1 < m) (e : List Int) {l : List Int} {d : Nat} (hl : l.length = d + 1) (ha : ∀ x ∈ l, 0 ≤ x ∧ x < m) : ∀ k, (bkR m e l d k).length = d + 1 ∧ ∀ x ∈ bkR m e l d k, 0 ≤ x ∧ x < m
  | 0 => ⟨hl, ha⟩
  | k + 1 => ⟨timesL_length _ _ _ _, timesL_num _ _ _ _ (by omega)⟩
def bkF (m : Int) (e l : List Int) (d : Nat) (c : Nat) : Int := at' (bkR m e l d c) (c + 1)
def bkL (m : Int) (e l : List Int) (d : Nat) : List Int := tab d (bkF m e l d)
theorem bkL_length (m : Int) (e l : List Int) (d : Nat) : (bkL m e l d).length = d := tab_length _ _
set_option maxHeartbeats 1000000 in
theorem c_spec_l15Blocks (P d : Nat) (m : Int) (l : List Int) (hp : IsP P) (hm : 1 < m) (hm2 : m ≤ 10000) (ha : ∀ x ∈ l, 0 ≤ x ∧ x < m) (hl : l.length = d + 1) (hd : d ≤ 10) : AFn Tryz.prog 67 [.int .i64 P, .agg [.int .i64 m, .sl false 2 (intL l)]] (.sl true 2 (intL (bkL m (ahL P m d) l d))) := by
  refine AFn.of' ttOk (by decide) Tryz.func67 Tryz.ntmps67 (by rw [Tryz.results67]) (by rfl) (by rfl) (by simp) (by decide) (by simp only [go_sem, Nat.reduceAdd, ↓reduceIte]; rfl) mixed (fun C hP hM hC => ?_)
  (repeat (first | ((with_reducible refine rgn_cons rfl (fun K hK => ?_)); simp only [go_sem, seval, ↓reduceIte, decide_true, decide_false, hl, wid (d : Int) (by omega) (by omega), show ((d + 1 : Nat) : Int) - 1 = (d : Int) by omega]; (first | refine hK _ _ _ (by simp only [go_sem, Nat.reduceEqDiff, ↓reduceIte]; rfl) ?_ | refine ⟨_, c_spec_l15Series P m d hp hm hm2 hd, hK _ _ _ (by simp only [go_sem, Nat.reduceEqDiff, ↓reduceIte]; rfl) ?_⟩ | refine ⟨_, c_spec_l01Own l (by omega), hK _ _ _ (by simp only [go_sem, Nat.reduceEqDiff, ↓reduceIte]; rfl) ?_⟩); clear hK; clear K) | (with_reducible first | refine rgn_nil (by first | trivial | kernel_rfl) ?_ | refine AWP.seq ?_ | refine tX hC hP (by kernel_rfl) ?_ | refine aX hC hM hP (by kernel_rfl) ?_ | refine AWP.skip ?_ | refine AWP.label ?_ | refine AWP.exit ?_ | refine AWP.block ?_ | refine cTa ?_ | refine cFa ?_) | simp only [qS, Nat.reduceEqDiff, ↓reduceIte]))
  refine AWP.loop (fun w : Nat × Nat × Nat => [(10, ⟨0, .val (.int .i64 (w.1 + 1 : Nat))⟩), (9, ⟨w.2.1, .own (.sl true 2 (intL (tab w.1 (bkF m (ahL P m d) l d))))⟩), (8, ⟨w.2.2, .own (.sl true 2 (intL (bkR m (ahL P m d) l d w.1)))⟩), (7, ⟨1, .own (.sl true 2 (intL (ahL P m d)))⟩), (5, ⟨0, .val (.int .i64 m)⟩), (6, ⟨0, .val (.int .i64 d)⟩)]) (fun w => w.1 ≤ d) (fun w => d - w.1) (0, 1, 1) (Nat.zero_le _) (fun i => rfl) ?_ (fun w hw => ?_)
  · simp [Sub, lk, bkR, tab_nil, intL]
  · obtain ⟨c, v9, v8⟩ := w
    simp only at hw ⊢
    by_cases hc : c < d
    · have hr := bkR_facts hm (ahL P m d) hl ha c
      have hx := at_bound hr.2 (by omega) (c + 1)
      have hlt : c + 1 < (bkR m (ahL P m d) l d c).length := by rw [hr.1]; omega
      have hsn : tab c (bkF m (ahL P m d) l d) ++ [at' (bkR m (ahL P m d) l d c) (c + 1)] = tab (c + 1) (bkF m (ahL P m d) l d) := tab_succ _ _
      have hG := c_spec_l15Block m (at' (bkR m (ahL P m d) l d c) (c + 1)) (ahL P m d) (c + 1) d hm hm2 (ahL_num (by omega) _ _) (ahL_length _ _ _) hx (by omega) (by omega) (by omega)
      have hV := c_spec_l02Inverse m (blL m (ahL P m d) (at' (bkR m (ahL P m d) l d c) (c + 1)) (c + 1) d) d hm hm2 (blL_num (by omega) _ _ _ _) (by rw [blL_length]; omega) (by rw [blL_length]; omega) (by omega)
      have hT := c_spec_l02Times m (bkR m (ahL P m d) l d c) (invS m (blL m (ahL P m d) (at' (bkR m (ahL P m d) l d c) (c + 1)) (c + 1) d) d) d (by omega) hm2 hr.2 (invS_num (by omega) _ _) (by omega) (by rw [invS_length]; omega) (by omega)
      (repeat (first | ((with_reducible refine rgn_cons rfl (fun K hK => ?_)); simp only [go_sem, seval, ↓reduceIte, decide_true, decide_false, show ((c + 1 : Nat) : Int) ≤ (d : Int) by omega, decide_true, hr.1, show ((c + 1 : Nat) : Int) < ((d + 1 : Nat) : Int) by omega, Int.toNat_natCast, Int.natCast_nonneg, Nat.mul_one, intL_get _ (c + 1) hlt, sizeL_take _ (c + 1) (Nat.le_of_lt hlt), show (bkR m (ahL P m d) l d c).getD (c + 1) 0 = at' (bkR m (ahL P m d) l d c) (c + 1) from rfl, tab_length, intL_snoc, hsn, show c + 1 ≤ 1099511627776 by omega, show (c + 1) * 8 ≤ 140737488355328 by omega, wid (((c + 1 : Nat) : Int) + 1) (by omega) (by omega)]; (first | refine hK _ _ _ (by simp only [go_sem, Nat.reduceEqDiff, ↓reduceIte]; rfl) ?_ | refine ⟨_, hG, hK _ _ _ (by simp only [go_sem, Nat.reduceEqDiff, ↓reduceIte]; rfl) ?_⟩ | refine ⟨_, hV, hK _ _ _ (by simp only [go_sem, Nat.reduceEqDiff, ↓reduceIte]; rfl) ?_⟩ | refine ⟨_, hT, hK _ _ _ (by simp only [go_sem, Nat.reduceEqDiff, ↓reduceIte]; rfl) ?_⟩); clear hK; clear K) | (with_reducible first | refine rgn_nil (by first | trivial | kernel_rfl) ?_ | refine AWP.seq ?_ | refine tX hC hP (by kernel_rfl) ?_ | refine aX hC hM hP (by kernel_rfl) ?_ | refine AWP.skip ?_ | refine AWP.label ?_ | refine AWP.exit ?_ | refine AWP.block ?_ | refine cTa ?_ | refine cFa ?_) | simp only [qS, Nat.reduceEqDiff, ↓reduceIte]))
      exact ⟨(c + 1, v9 + 1, v8 + 1), by simp only; omega, by simp only; omega, by simp [Sub, lk, bkR]⟩
    · (repeat (first | ((with_reducible refine rgn_cons rfl (fun K hK => ?_)); simp only [go_sem, seval, ↓reduceIte, decide_true, decide_false, show ¬ ((c + 1 : Nat) : Int) ≤ (d : Int) by omega, decide_false]; (refine hK _ _ _ (by simp only [go_sem, Nat.reduceEqDiff, ↓reduceIte]; rfl) ?_); clear hK; clear K) | (with_reducible first | refine rgn_nil (by first | trivial | kernel_rfl) ?_ | refine AWP.seq ?_ | refine tX hC hP (by kernel_rfl) ?_ | refine aX hC hM hP (by kernel_rfl) ?_ | refine AWP.skip ?_ | refine AWP.label ?_ | refine AWP.exit ?_ | refine AWP.block ?_ | refine cTa ?_ | refine cFa ?_) | simp only [qS, Nat.reduceEqDiff, ↓reduceIte]))
      (refine AWP.ret ?_; refine retOk1 (by simp only [go_sem, seval, ↓reduceIte, decide_true, decide_false]; rfl) ?_)
      rw [show c = d by omega]; rfl
set_option maxHeartbeats 1000000 in
theorem c_impl_blocks (P d : Nat) (m : Int) (l : List Int) (hp : IsP P) (hm : 1 < m) (hm2 : m ≤ 10000) (ha : ∀ x ∈ l, 0 ≤ x ∧ x < m) (hl : l.length = d + 1) (hd : d ≤ 10) : AFn Tryz.prog 53 [.int .i64 P, .agg [.int .i64 m, .sl false 2 (intL l)]] (.sl true 2 (intL (bkL m (ahL P m d) l d))) := by
  refine AFn.of' ttOk (by decide) Tryz.func53 Tryz.ntmps53 (by rw [Tryz.results53]) (by rfl) (by rfl) (by simp) (by decide) (by simp only [go_sem, Nat.reduceAdd, ↓reduceIte]; rfl) mixed (fun C hP hM hC => ?_)
  have hD := c_impl_Series_degree m l (by omega)
  rw [show (l.length : Int) - 1 = (d : Int) by omega] at hD
  (repeat (first | ((with_reducible refine rgn_cons rfl (fun K hK => ?_)); simp only [go_sem, seval, ↓reduceIte, decide_true, decide_false]; (first | refine hK _ _ _ (by simp only [go_sem, Nat.reduceEqDiff, ↓reduceIte]; rfl) ?_ | refine ⟨_, hD, hK _ _ _ (by simp only [go_sem, Nat.reduceEqDiff, ↓reduceIte]; rfl) ?_⟩ | refine ⟨_, c_impl_artinHasseSeries P m d hp hm hm2 hd, hK _ _ _ (by simp only [go_sem, Nat.reduceEqDiff, ↓reduceIte]; rfl) ?_⟩); clear hK; clear K) | (with_reducible first | refine rgn_nil (by first | trivial | kernel_rfl) ?_ | refine AWP.seq ?_ | refine tX hC hP (by kernel_rfl) ?_ | refine aX hC hM hP (by kernel_rfl) ?_ | refine AWP.skip ?_ | refine AWP.label ?_ | refine AWP.exit ?_ | refine AWP.block ?_ | refine cTa ?_ | refine cFa ?_) | simp only [qS, Nat.reduceEqDiff, ↓reduceIte]))
  refine AWP.loop (fun w : Nat × Nat × Option Nat => match w with
    | (k, v6, none) => [(7, ⟨0, .val (.int .i64 (k + 1 : Nat))⟩), (6, ⟨v6, .own (.sl true 2 (intL (tab k (bkF m (ahL P m d) l d))))⟩), (5, ⟨2, .own (.box 31 (.agg [.int .i64 m, .sl true 2 (intL (ahL P m d))]))⟩), (3, ⟨1, .own (.box 31 (.agg [.int .i64 m, .sl false 2 (intL (bkR m (ahL P m d) l d k))]))⟩)]
    | (k, v6, some v) => [(7, ⟨0, .val (.int .i64 (k + 1 : Nat))⟩), (6, ⟨v6, .own (.sl true 2 (intL (tab k (bkF m (ahL P m d) l d))))⟩), (5, ⟨2, .own (.box 31 (.agg [.int .i64 m, .sl true 2 (intL (ahL P m d))]))⟩), (3, ⟨v, .own (.box 31 (.agg [.int .i64 m, .sl true 2 (intL (bkR m (ahL P m d) l d k))]))⟩)]) (fun w => w.1 ≤ d) (fun w => d - w.1) (0, 1, none) (Nat.zero_le _) (fun i => by obtain ⟨k, v6, v⟩ := i; cases v <;> rfl) ?_ (fun w hw => ?_)
  · simp [Sub, lk, bkR, tab_nil, intL]
  · obtain ⟨c, v6, v⟩ := w
    simp only at hw
    have hr := bkR_facts hm (ahL P m d) hl ha c
    have hDc := c_impl_Series_degree m (bkR m (ahL P m d) l d c) (by omega)
    rw [hr.1, show ((d + 1 : Nat) : Int) - 1 = (d : Int) by omega] at hDc
    by_cases hc : c < d
    · have hx := at_bound hr.2 (by omega) (c + 1)
      have hlt : c + 1 < (bkR m (ahL P m d) l d c).length := by rw [hr.1]; omega
      have hsn : tab c (bkF m (ahL P m d) l d) ++ [at' (bkR m (ahL P m d) l d c) (c + 1)] = tab (c + 1) (bkF m (ahL P m d) l d) := tab_succ _ _
      have hG := c_impl_block m (at' (bkR m (ahL P m d) l d c) (c + 1)) (ahL P m d) (c + 1) d hm hm2 (ahL_num (by omega) _ _) (ahL_length _ _ _) hx (by omega) (by omega) (by omega)
      have hV := c_impl_Series_inverse m (blL m (ahL P m d) (at' (bkR m (ahL P m d) l d c) (c + 1)) (c + 1) d) d hm hm2 (blL_num (by omega) _ _ _ _) (blL_length _ _ _ _ _) (by omega)
      have hT := c_impl_Series_times m (bkR m (ahL P m d) l d c) (invS m (blL m (ahL P m d) (at' (bkR m (ahL P m d) l d c) (c + 1)) (c + 1) d) d) d (by omega) hm2 hr.2 (invS_num (by omega) _ _) hr.1 (invS_length _ _ _) (by omega)
      cases v with
      | none =>
        simp only
        (repeat (first | ((with_reducible refine rgn_cons rfl (fun K hK => ?_)); simp only [go_sem, seval, ↓reduceIte, decide_true, decide_false, show ((c + 1 : Nat) : Int) ≤ (d : Int) by omega, decide_true, hr.1, show ((c + 1 : Nat) : Int) < ((d + 1 : Nat) : Int) by omega, Int.toNat_natCast, Int.natCast_nonneg, intL_getD _ (c + 1) hlt, show (bkR m (ahL P m d) l d c).getD (c + 1) 0 = at' (bkR m (ahL P m d) l d c) (c + 1) from rfl, tab_length, intL_snoc, hsn, show c + 1 ≤ 1099511627776 by omega, show (c + 1) * 8 ≤ 140737488355328 by omega, wid (((c + 1 : Nat) : Int) + 1) (by omega) (by omega)]; (first | refine hK _ _ _ (by simp only [go_sem, Nat.reduceEqDiff, ↓reduceIte]; rfl) ?_ | refine ⟨_, hDc, hK _ _ _ (by simp only [go_sem, Nat.reduceEqDiff, ↓reduceIte]; rfl) ?_⟩ | refine ⟨_, hG, hK _ _ _ (by simp only [go_sem, Nat.reduceEqDiff, ↓reduceIte]; rfl) ?_⟩ | refine ⟨_, hV, hK _ _ _ (by simp only [go_sem, Nat.reduceEqDiff, ↓reduceIte]; rfl) ?_⟩ | refine ⟨_, hT, hK _ _ _ (by simp only [go_sem, Nat.reduceEqDiff, ↓reduceIte]; rfl) ?_⟩); clear hK; clear K) | (with_reducible first | refine rgn_nil (by first | trivial | kernel_rfl) ?_ | refine AWP.seq ?_ | refine tX hC hP (by kernel_rfl) ?_ | refine aX hC hM hP (by kernel_rfl) ?_ | refine AWP.skip ?_ | refine AWP.label ?_ | refine AWP.exit ?_ | refine AWP.block ?_ | refine cTa ?_ | refine cFa ?_) | simp only [qS, Nat.reduceEqDiff, ↓reduceIte]))
        exact ⟨(c + 1, v6 + 1, some 2), by simp only; omega, by simp only; omega, by simp [Sub, lk, bkR]⟩
      | some v =>
        simp only
        (repeat (first | ((with_reducible refine rgn_cons rfl (fun K hK => ?_)); simp only [go_sem, seval, ↓reduceIte, decide_true, decide_false, show ((c + 1 : Nat) : Int) ≤ (d : Int) by omega, decide_true, hr.1, show ((c + 1 : Nat) : Int) < ((d + 1 : Nat) : Int) by omega, Int.toNat_natCast, Int.natCast_nonneg, Nat.mul_one, intL_get _ (c + 1) hlt, sizeL_take _ (c + 1) (Nat.le_of_lt hlt), show (bkR m (ahL P m d) l d c).getD (c + 1) 0 = at' (bkR m (ahL P m d) l d c) (c + 1) from rfl, tab_length, intL_snoc, hsn, show c + 1 ≤ 1099511627776 by omega, show (c + 1) * 8 ≤ 140737488355328 by omega, wid (((c + 1 : Nat) : Int) + 1) (by omega) (by omega)]; (first | refine hK _ _ _ (by simp only [go_sem, Nat.reduceEqDiff, ↓reduceIte]; rfl) ?_ | refine ⟨_, hDc, hK _ _ _ (by simp only [go_sem, Nat.reduceEqDiff, ↓reduceIte]; rfl) ?_⟩ | refine ⟨_, hG, hK _ _ _ (by simp only [go_sem, Nat.reduceEqDiff, ↓reduceIte]; rfl) ?_⟩ | refine ⟨_, hV, hK _ _ _ (by simp only [go_sem, Nat.reduceEqDiff, ↓reduceIte]; rfl) ?_⟩ | refine ⟨_, hT, hK _ _ _ (by simp only [go_sem, Nat.reduceEqDiff, ↓reduceIte]; rfl) ?_⟩); clear hK; clear K) | (with_reducible first | refine rgn_nil (by first | trivial | kernel_rfl) ?_ | refine AWP.seq ?_ | refine tX hC hP (by kernel_rfl) ?_ | refine aX hC hM hP (by kernel_rfl) ?_ | refine AWP.skip ?_ | refine AWP.label ?_ | refine AWP.exit ?_ | refine AWP.block ?_ | refine cTa ?_ | refine cFa ?_) | simp only [qS, Nat.reduceEqDiff, ↓reduceIte]))
        exact ⟨(c + 1, v6 + 1, some (v + 1)), by simp only; omega, by simp only; omega, by simp [Sub, lk, bkR]⟩
    · have hcd : c = d := by omega
      subst hcd
      cases v with
      | none =>
        simp only
        (repeat (first | ((with_reducible refine rgn_cons rfl (fun K hK => ?_)); simp only [go_sem, seval, ↓reduceIte, decide_true, decide_false, show ¬ ((c + 1 : Nat) : Int) ≤ (c : Int) by omega, decide_false]; (first | refine hK _ _ _ (by simp only [go_sem, Nat.reduceEqDiff, ↓reduceIte]; rfl) ?_ | refine ⟨_, hDc, hK _ _ _ (by simp only [go_sem, Nat.reduceEqDiff, ↓reduceIte]; rfl) ?_⟩); clear hK; clear K) | (with_reducible first | refine rgn_nil (by first | trivial | kernel_rfl) ?_ | refine AWP.seq ?_ | refine tX hC hP (by kernel_rfl) ?_ | refine aX hC hM hP (by kernel_rfl) ?_ | refine AWP.skip ?_ | refine AWP.label ?_ | refine AWP.exit ?_ | refine AWP.block ?_ | refine cTa ?_ | refine cFa ?_) | simp only [qS, Nat.reduceEqDiff, ↓reduceIte]))
        (refine AWP.ret ?_; refine retOk1 (by simp only [go_sem, seval, ↓reduceIte, decide_true, decide_false]; rfl) ?_)
        rfl
      | some v =>
        simp only
        (repeat (first | ((with_reducible refine rgn_cons rfl (fun K hK => ?_)); simp only [go_sem, seval, ↓reduceIte, decide_true, decide_false, show ¬ ((c + 1 : Nat) : Int) ≤ (c : Int) by omega, decide_false]; (first | refine hK _ _ _ (by simp only [go_sem, Nat.reduceEqDiff, ↓reduceIte]; rfl) ?_ | refine ⟨_, hDc, hK _ _ _ (by simp only [go_sem, Nat.reduceEqDiff, ↓reduceIte]; rfl) ?_⟩); clear hK; clear K) | (with_reducible first | refine rgn_nil (by first | trivial | kernel_rfl) ?_ | refine AWP.seq ?_ | refine tX hC hP (by kernel_rfl) ?_ | refine aX hC hM hP (by kernel_rfl) ?_ | refine AWP.skip ?_ | refine AWP.label ?_ | refine AWP.exit ?_ | refine AWP.block ?_ | refine cTa ?_ | refine cFa ?_) | simp only [qS, Nat.reduceEqDiff, ↓reduceIte]))
        (refine AWP.ret ?_; refine retOk1 (by simp only [go_sem, seval, ↓reduceIte, decide_true, decide_false]; rfl) ?_)
        rfl
theorem isBig_of {m : Int} {l : List Int} (h : isBig m l = true) : 2 ≤ m ∧ m ≤ 10000 ∧ 2 ≤ l.length ∧ l.length ≤ 11 ∧ ∀ x ∈ l, 0 ≤ x ∧ x < m := by
  simp only [isBig, Bool.and_eq_true] at h
  have := isSer_len h.1
  exact ⟨this.2.2.1, this.2.2.2.1, this.1, this.2.1, fun x hx => by have := this.2.2.2.2 x hx; omega⟩
def blkC (p m : Int) (l : List Int) : Int := if isBig m l = true then (if typB p = true then pwC p m else 2) else 1
theorem blkC_zero {p m : Int} {l : List Int} (h : blkC p m l = 0) : isBig m l = true ∧ typB p = true ∧ powB p.toNat m.toNat = true := by
  unfold blkC at h
  split at h
  · rename_i h1
    split at h
    · rename_i h2; exact ⟨h1, h2, pwC_zero h⟩
    · cases h
  · cases h
set_option maxHeartbeats 1000000 in
theorem c_spec_l15Big (p m : Int) (l : List Int) (hl : l.length ≤ 1099511627776) : AFn Tryz.prog 66 [.int .i64 p, .agg [.int .i64 m, .sl false 2 (intL l)]] (.int .i64 (blkC p m l)) := by
  refine AFn.of' ttOk (by decide) Tryz.func66 Tryz.ntmps66 (by rw [Tryz.results66]) (by rfl) (by rfl) (by simp) (by decide) (by simp only [go_sem, Nat.reduceAdd, ↓reduceIte]; rfl) mixed (fun C hP hM hC => ?_)
  cases hb : isBig m l with
  | false =>
    (repeat (first | ((with_reducible refine rgn_cons rfl (fun K hK => ?_)); simp only [go_sem, seval, ↓reduceIte, decide_true, decide_false, hb]; (first | refine hK _ _ _ (by simp only [go_sem, Nat.reduceEqDiff, ↓reduceIte]; rfl) ?_ | refine ⟨_, c_spec_l14Is m l hl, hK _ _ _ (by simp only [go_sem, Nat.reduceEqDiff, ↓reduceIte]; rfl) ?_⟩); clear hK; clear K) | (with_reducible first | refine rgn_nil (by first | trivial | kernel_rfl) ?_ | refine AWP.seq ?_ | refine tX hC hP (by kernel_rfl) ?_ | refine aX hC hM hP (by kernel_rfl) ?_ | refine AWP.skip ?_ | refine AWP.label ?_ | refine AWP.exit ?_ | refine AWP.block ?_ | refine cTa ?_ | refine cFa ?_) | simp only [qS, Nat.reduceEqDiff, ↓reduceIte]))
    (refine AWP.ret ?_; refine retOk1 (by simp only [go_sem, seval, ↓reduceIte, decide_true, decide_false]; rfl) ?_)
    simp [blkC, hb]
  | true =>
    have hz := isBig_of hb
    cases ht : typB p with
    | false =>
      (repeat (first | ((with_reducible refine rgn_cons rfl (fun K hK => ?_)); simp only [go_sem, seval, ↓reduceIte, decide_true, decide_false, hb, ht]; (first | refine hK _ _ _ (by simp only [go_sem, Nat.reduceEqDiff, ↓reduceIte]; rfl) ?_ | refine ⟨_, c_spec_l14Is m l hl, hK _ _ _ (by simp only [go_sem, Nat.reduceEqDiff, ↓reduceIte]; rfl) ?_⟩ | refine ⟨_, c_spec_l09Prime p, hK _ _ _ (by simp only [go_sem, Nat.reduceEqDiff, ↓reduceIte]; rfl) ?_⟩); clear hK; clear K) | (with_reducible first | refine rgn_nil (by first | trivial | kernel_rfl) ?_ | refine AWP.seq ?_ | refine tX hC hP (by kernel_rfl) ?_ | refine aX hC hM hP (by kernel_rfl) ?_ | refine AWP.skip ?_ | refine AWP.label ?_ | refine AWP.exit ?_ | refine AWP.block ?_ | refine cTa ?_ | refine cFa ?_) | simp only [qS, Nat.reduceEqDiff, ↓reduceIte]))
      (refine AWP.ret ?_; refine retOk1 (by simp only [go_sem, seval, ↓reduceIte, decide_true, decide_false]; rfl) ?_)
      simp [blkC, hb, ht]
    | true =>
      cases hq : powB p.toNat m.toNat with
      | false =>
        (repeat (first | ((with_reducible refine rgn_cons rfl (fun K hK => ?_)); simp only [go_sem, seval, ↓reduceIte, decide_true, decide_false, hb, ht, hq]; (first | refine hK _ _ _ (by simp only [go_sem, Nat.reduceEqDiff, ↓reduceIte]; rfl) ?_ | refine ⟨_, c_spec_l14Is m l hl, hK _ _ _ (by simp only [go_sem, Nat.reduceEqDiff, ↓reduceIte]; rfl) ?_⟩ | refine ⟨_, c_spec_l09Prime p, hK _ _ _ (by simp only [go_sem, Nat.reduceEqDiff, ↓reduceIte]; rfl) ?_⟩ | refine ⟨_, c_spec_l09PowerOf_i p m ht ⟨hz.1, hz.2.1⟩, hK _ _ _ (by simp only [go_sem, Nat.reduceEqDiff, ↓reduceIte]; rfl) ?_⟩); clear hK; clear K) | (with_reducible first | refine rgn_nil (by first | trivial | kernel_rfl) ?_ | refine AWP.seq ?_ | refine tX hC hP (by kernel_rfl) ?_ | refine aX hC hM hP (by kernel_rfl) ?_ | refine AWP.skip ?_ | refine AWP.label ?_ | refine AWP.exit ?_ | refine AWP.block ?_ | refine cTa ?_ | refine cFa ?_) | simp only [qS, Nat.reduceEqDiff, ↓reduceIte]))
        (refine AWP.ret ?_; refine retOk1 (by simp only [go_sem, seval, ↓reduceIte, decide_true, decide_false]; rfl) ?_)
        simp [blkC, hb, ht, pwC, hq]
      | true =>
        (repeat (first | ((with_reducible refine rgn_cons rfl (fun K hK => ?_)); simp only [go_sem, seval, ↓reduceIte, decide_true, decide_false, hb, ht, hq]; (first | refine hK _ _ _ (by simp only [go_sem, Nat.reduceEqDiff, ↓reduceIte]; rfl) ?_ | refine ⟨_, c_spec_l14Is m l hl, hK _ _ _ (by simp only [go_sem, Nat.reduceEqDiff, ↓reduceIte]; rfl) ?_⟩ | refine ⟨_, c_spec_l09Prime p, hK _ _ _ (by simp only [go_sem, Nat.reduceEqDiff, ↓reduceIte]; rfl) ?_⟩ | refine ⟨_, c_spec_l09PowerOf_i p m ht ⟨hz.1, hz.2.1⟩, hK _ _ _ (by simp only [go_sem, Nat.reduceEqDiff, ↓reduceIte]; rfl) ?_⟩); clear hK; clear K) | (with_reducible first | refine rgn_nil (by first | trivial | kernel_rfl) ?_ | refine AWP.seq ?_ | refine tX hC hP (by kernel_rfl) ?_ | refine aX hC hM hP (by kernel_rfl) ?_ | refine AWP.skip ?_ | refine AWP.label ?_ | refine AWP.exit ?_ | refine AWP.block ?_ | refine cTa ?_ | refine cFa ?_) | simp only [qS, Nat.reduceEqDiff, ↓reduceIte]))
        (refine AWP.ret ?_; refine retOk1 (by simp only [go_sem, seval, ↓reduceIte, decide_true, decide_false]; rfl) ?_)
        simp [blkC, hb, ht, pwC, hq]
theorem c_spec_l15Blocks_i (p m : Int) (l : List Int) (h : blkC p m l = 0) : AFn Tryz.prog 67 [.int .i64 p, .agg [.int .i64 m, .sl false 2 (intL l)]] (.sl true 2 (intL (bkL m (ahL p.toNat m (l.length - 1)) l (l.length - 1)))) := by
  have hz := blkC_zero h
  have hb := isBig_of hz.1
  have hp := typB_of hz.2.1
  have h2 := c_spec_l15Blocks p.toNat (l.length - 1) m l hp.1 (by omega) (by omega) hb.2.2.2.2 (by omega) (by omega)
  rw [hp.2] at h2
  exact h2
theorem c_impl_blocks_i (p m : Int) (l : List Int) (h : blkC p m l = 0) : AFn Tryz.prog 53 [.int .i64 p, .agg [.int .i64 m, .sl false 2 (intL l)]] (.sl true 2 (intL (bkL m (ahL p.toNat m (l.length - 1)) l (l.length - 1)))) := by
  have hz := blkC_zero h
  have hb := isBig_of hz.1
  have hp := typB_of hz.2.1
  have h2 := c_impl_blocks p.toNat (l.length - 1) m l hp.1 (by omega) (by omega) hb.2.2.2.2 (by omega) (by omega)
  rw [hp.2] at h2
  exact h2
set_option maxHeartbeats 1000000 in
theorem c_impl_blocked (p m : Int) (l : List Int) (hl : l.length ≤ 1099511627776) : AFn Tryz.prog 52 [.int .i64 p, .agg [.int .i64 m, .sl false 2 (intL l)]] (.int .i64 (blkC p m l)) := by
  refine AFn.of' ttOk (by decide) Tryz.func52 Tryz.ntmps52 (by rw [Tryz.results52]) (by rfl) (by rfl) (by simp) (by decide) (by simp only [go_sem, Nat.reduceAdd, ↓reduceIte]; rfl) mixed (fun C hP hM hC => ?_)
  cases hb : isBig m l with
  | false =>
    (repeat (first | ((with_reducible refine rgn_cons rfl (fun K hK => ?_)); simp only [go_sem, seval, ↓reduceIte, decide_true, decide_false, hb]; (first | refine hK _ _ _ (by simp only [go_sem, Nat.reduceEqDiff, ↓reduceIte]; rfl) ?_ | refine ⟨_, c_impl_IsBigVector m l hl, hK _ _ _ (by simp only [go_sem, Nat.reduceEqDiff, ↓reduceIte]; rfl) ?_⟩); clear hK; clear K) | (with_reducible first | refine rgn_nil (by first | trivial | kernel_rfl) ?_ | refine AWP.seq ?_ | refine tX hC hP (by kernel_rfl) ?_ | refine aX hC hM hP (by kernel_rfl) ?_ | refine AWP.skip ?_ | refine AWP.label ?_ | refine AWP.exit ?_ | refine AWP.block ?_ | refine cTa ?_ | refine cFa ?_) | simp only [qS, Nat.reduceEqDiff, ↓reduceIte]))
    (refine AWP.ret ?_; refine retOk1 (by simp only [go_sem, seval, ↓reduceIte, decide_true, decide_false]; rfl) ?_)
    simp [blkC, hb]
  | true =>
    have hz := isBig_of hb
    cases ht : typB p with
    | false =>
      (repeat (first | ((with_reducible refine rgn_cons rfl (fun K hK => ?_)); simp only [go_sem, seval, ↓reduceIte, decide_true, decide_false, hb, ht]; (first | refine hK _ _ _ (by simp only [go_sem, Nat.reduceEqDiff, ↓reduceIte]; rfl) ?_ | refine ⟨_, c_impl_IsBigVector m l hl, hK _ _ _ (by simp only [go_sem, Nat.reduceEqDiff, ↓reduceIte]; rfl) ?_⟩ | refine ⟨_, c_impl_isTypicalPrime p, hK _ _ _ (by simp only [go_sem, Nat.reduceEqDiff, ↓reduceIte]; rfl) ?_⟩); clear hK; clear K) | (with_reducible first | refine rgn_nil (by first | trivial | kernel_rfl) ?_ | refine AWP.seq ?_ | refine tX hC hP (by kernel_rfl) ?_ | refine aX hC hM hP (by kernel_rfl) ?_ | refine AWP.skip ?_ | refine AWP.label ?_ | refine AWP.exit ?_ | refine AWP.block ?_ | refine cTa ?_ | refine cFa ?_) | simp only [qS, Nat.reduceEqDiff, ↓reduceIte]))
      (refine AWP.ret ?_; refine retOk1 (by simp only [go_sem, seval, ↓reduceIte, decide_true, decide_false]; rfl) ?_)
      simp [blkC, hb, ht]
    | true =>
      cases hq : powB p.toNat m.toNat with
      | false =>
        (repeat (first | ((with_reducible refine rgn_cons rfl (fun K hK => ?_)); simp only [go_sem, seval, ↓reduceIte, decide_true, decide_false, hb, ht, hq]; (first | refine hK _ _ _ (by simp only [go_sem, Nat.reduceEqDiff, ↓reduceIte]; rfl) ?_ | refine ⟨_, c_impl_IsBigVector m l hl, hK _ _ _ (by simp only [go_sem, Nat.reduceEqDiff, ↓reduceIte]; rfl) ?_⟩ | refine ⟨_, c_impl_isTypicalPrime p, hK _ _ _ (by simp only [go_sem, Nat.reduceEqDiff, ↓reduceIte]; rfl) ?_⟩ | refine ⟨_, c_impl_isPowerOf_i p m ht ⟨hz.1, hz.2.1⟩, hK _ _ _ (by simp only [go_sem, Nat.reduceEqDiff, ↓reduceIte]; rfl) ?_⟩); clear hK; clear K) | (with_reducible first | refine rgn_nil (by first | trivial | kernel_rfl) ?_ | refine AWP.seq ?_ | refine tX hC hP (by kernel_rfl) ?_ | refine aX hC hM hP (by kernel_rfl) ?_ | refine AWP.skip ?_ | refine AWP.label ?_ | refine AWP.exit ?_ | refine AWP.block ?_ | refine cTa ?_ | refine cFa ?_) | simp only [qS, Nat.reduceEqDiff, ↓reduceIte]))
        (refine AWP.ret ?_; refine retOk1 (by simp only [go_sem, seval, ↓reduceIte, decide_true, decide_false]; rfl) ?_)
        simp [blkC, hb, ht, pwC, hq]
      | true =>
        (repeat (first | ((with_reducible refine rgn_cons rfl (fun K hK => ?_)); simp only [go_sem, seval, ↓reduceIte, decide_true, decide_false, hb, ht, hq]; (first | refine hK _ _ _ (by simp only [go_sem, Nat.reduceEqDiff, ↓reduceIte]; rfl) ?_ | refine ⟨_, c_impl_IsBigVector m l hl, hK _ _ _ (by simp only [go_sem, Nat.reduceEqDiff, ↓reduceIte]; rfl) ?_⟩ | refine ⟨_, c_impl_isTypicalPrime p, hK _ _ _ (by simp only [go_sem, Nat.reduceEqDiff, ↓reduceIte]; rfl) ?_⟩ | refine ⟨_, c_impl_isPowerOf_i p m ht ⟨hz.1, hz.2.1⟩, hK _ _ _ (by simp only [go_sem, Nat.reduceEqDiff, ↓reduceIte]; rfl) ?_⟩); clear hK; clear K) | (with_reducible first | refine rgn_nil (by first | trivial | kernel_rfl) ?_ | refine AWP.seq ?_ | refine tX hC hP (by kernel_rfl) ?_ | refine aX hC hM hP (by kernel_rfl) ?_ | refine AWP.skip ?_ | refine AWP.label ?_ | refine AWP.exit ?_ | refine AWP.block ?_ | refine cTa ?_ | refine cFa ?_) | simp only [qS, Nat.reduceEqDiff, ↓reduceIte]))
        (refine AWP.ret ?_; refine retOk1 (by simp only [go_sem, seval, ↓reduceIte, decide_true, decide_false]; rfl) ?_)
        simp [blkC, hb, ht, pwC, hq]
set_option maxHeartbeats 1000000 in
theorem c_spec_BlocksOf_ok (p m : Int) (l : List Int) (hl : l.length ≤ 1099511627776) (h : blkC p m l = 0) : AFn Tryz.prog 28 [.int .i64 p, .agg [.int .i64 m, .sl false 2 (intL l)]] (.tup [.sl true 2 (intL (bkL m (ahL p.toNat m (l.length - 1)) l (l.length - 1))), .int .i64 (blkC p m l)]) := by
  refine AFn.of' ttOk (by decide) Tryz.func28 Tryz.ntmps28 (by rw [Tryz.results28]) (by rfl) (by rfl) (by simp) (by decide) (by simp only [go_sem, Nat.reduceAdd, ↓reduceIte]; rfl) mixed (fun C hP hM hC => ?_)
  have hB := c_spec_l15Big p m l hl
  rw [h] at hB
  (repeat (first | ((with_reducible refine rgn_cons rfl (fun K hK => ?_)); simp only [go_sem, seval, ↓reduceIte, decide_true, decide_false]; (first | refine hK _ _ _ (by simp only [go_sem, Nat.reduceEqDiff, ↓reduceIte]; rfl) ?_ | refine ⟨_, hB, hK _ _ _ (by simp only [go_sem, Nat.reduceEqDiff, ↓reduceIte]; rfl) ?_⟩ | refine ⟨_, c_spec_l15Blocks_i p m l h, hK _ _ _ (by simp only [go_sem, Nat.reduceEqDiff, ↓reduceIte]; rfl) ?_⟩); clear hK; clear K) | (with_reducible first | refine rgn_nil (by first | trivial | kernel_rfl) ?_ | refine AWP.seq ?_ | refine tX hC hP (by kernel_rfl) ?_ | refine aX hC hM hP (by kernel_rfl) ?_ | refine AWP.skip ?_ | refine AWP.label ?_ | refine AWP.exit ?_ | refine AWP.block ?_ | refine cTa ?_ | refine cFa ?_) | simp only [qS, Nat.reduceEqDiff, ↓reduceIte]))
  (refine AWP.ret ?_; refine retOk2 (by simp only [go_sem, seval, ↓reduceIte, decide_true, decide_false]; rfl) (by simp only [go_sem, seval, ↓reduceIte, decide_true, decide_false]; rfl) (by simp) ?_)
  rw [h]
set_option maxHeartbeats 1000000 in
theorem c_spec_BlocksOf_no (p m : Int) (l : List Int) (hl : l.length ≤ 1099511627776) (h : ¬ blkC p m l = 0) : AFn Tryz.prog 28 [.int .i64 p, .agg [.int .i64 m, .sl false 2 (intL l)]] (.tup [.nil, .int .i64 (blkC p m l)]) := by
  refine AFn.of' ttOk (by decide) Tryz.func28 Tryz.ntmps28 (by rw [Tryz.results28]) (by rfl) (by rfl) (by simp) (by decide) (by simp only [go_sem, Nat.reduceAdd, ↓reduceIte]; rfl) mixed (fun C hP hM hC => ?_)
  (repeat (first | ((with_reducible refine rgn_cons rfl (fun K hK => ?_)); simp only [go_sem, seval, ↓reduceIte, decide_true, decide_false, show (blkC p m l != 0) = true by simp [h]]; (first | refine hK _ _ _ (by simp only [go_sem, Nat.reduceEqDiff, ↓reduceIte]; rfl) ?_ | refine ⟨_, c_spec_l15Big p m l hl, hK _ _ _ (by simp only [go_sem, Nat.reduceEqDiff, ↓reduceIte]; rfl) ?_⟩); clear hK; clear K) | (with_reducible first | refine rgn_nil (by first | trivial | kernel_rfl) ?_ | refine AWP.seq ?_ | refine tX hC hP (by kernel_rfl) ?_ | refine aX hC hM hP (by kernel_rfl) ?_ | refine AWP.skip ?_ | refine AWP.label ?_ | refine AWP.exit ?_ | refine AWP.block ?_ | refine cTa ?_ | refine cFa ?_) | simp only [qS, Nat.reduceEqDiff, ↓reduceIte]))
  (refine AWP.ret ?_; refine retOk2 (by simp only [go_sem, seval, ↓reduceIte, decide_true, decide_false]; rfl) (by simp only [go_sem, seval, ↓reduceIte, decide_true, decide_false]; rfl) (by simp) ?_)
  rfl
set_option maxHeartbeats 1000000 in
theorem c_impl_BlocksOf_ok (p m : Int) (l : List Int) (hl : l.length ≤ 1099511627776) (h : blkC p m l = 0) : AFn Tryz.prog 15 [.int .i64 p, .agg [.int .i64 m, .sl false 2 (intL l)]] (.tup [.sl true 2 (intL (bkL m (ahL p.toNat m (l.length - 1)) l (l.length - 1))), .int .i64 (blkC p m l)]) := by
  refine AFn.of' ttOk (by decide) Tryz.func15 Tryz.ntmps15 (by rw [Tryz.results15]) (by rfl) (by rfl) (by simp) (by decide) (by simp only [go_sem, Nat.reduceAdd, ↓reduceIte]; rfl) mixed (fun C hP hM hC => ?_)
  have hB := c_impl_blocked p m l hl
  rw [h] at hB
  (repeat (first | ((with_reducible refine rgn_cons rfl (fun K hK => ?_)); simp only [go_sem, seval, ↓reduceIte, decide_true, decide_false]; (first | refine hK _ _ _ (by simp only [go_sem, Nat.reduceEqDiff, ↓reduceIte]; rfl) ?_ | refine ⟨_, hB, hK _ _ _ (by simp only [go_sem, Nat.reduceEqDiff, ↓reduceIte]; rfl) ?_⟩ | refine ⟨_, c_impl_blocks_i p m l h, hK _ _ _ (by simp only [go_sem, Nat.reduceEqDiff, ↓reduceIte]; rfl) ?_⟩); clear hK; clear K) | (with_reducible first | refine rgn_nil (by first | trivial | kernel_rfl) ?_ | refine AWP.seq ?_ | refine tX hC hP (by kernel_rfl) ?_ | refine aX hC hM hP (by kernel_rfl) ?_ | refine AWP.skip ?_ | refine AWP.label ?_ | refine AWP.exit ?_ | refine AWP.block ?_ | refine cTa ?_ | refine cFa ?_) | simp only [qS, Nat.reduceEqDiff, ↓reduceIte]))
  (refine AWP.ret ?_; refine retOk2 (by simp only [go_sem, seval, ↓reduceIte, decide_true, decide_false]; rfl) (by simp only [go_sem, seval, ↓reduceIte, decide_true, decide_false]; rfl) (by simp) ?_)
  rw [h]
set_option maxHeartbeats 1000000 in
theorem c_impl_BlocksOf_no (p m : Int) (l : List Int) (hl : l.length ≤ 1099511627776) (h : ¬ blkC p m l = 0) : AFn Tryz.prog 15 [.int .i64 p, .agg [.int .i64 m, .sl false 2 (intL l)]] (.tup [.nil, .int .i64 (blkC p m l)]) := by
  refine AFn.of' ttOk (by decide) Tryz.func15 Tryz.ntmps15 (by rw [Tryz.results15]) (by rfl) (by rfl) (by simp) (by decide) (by simp only [go_sem, Nat.reduceAdd, ↓reduceIte]; rfl) mixed (fun C hP hM hC => ?_)
  (repeat (first | ((with_reducible refine rgn_cons rfl (fun K hK => ?_)); simp only [go_sem, seval, ↓reduceIte, decide_true, decide_false, show (blkC p m l != 0) = true by simp [h]]; (first | refine hK _ _ _ (by simp only [go_sem, Nat.reduceEqDiff, ↓reduceIte]; rfl) ?_ | refine ⟨_, c_impl_blocked p m l hl, hK _ _ _ (by simp only [go_sem, Nat.reduceEqDiff, ↓reduceIte]; rfl) ?_⟩); clear hK; clear K) | (with_reducible first | refine rgn_nil (by first | trivial | kernel_rfl) ?_ | refine AWP.seq ?_ | refine tX hC hP (by kernel_rfl) ?_ | refine aX hC hM hP (by kernel_rfl) ?_ | refine AWP.skip ?_ | refine AWP.label ?_ | refine AWP.exit ?_ | refine AWP.block ?_ | refine cTa ?_ | refine cFa ?_) | simp only [qS, Nat.reduceEqDiff, ↓reduceIte]))
  (refine AWP.ret ?_; refine retOk2 (by simp only [go_sem, seval, ↓reduceIte, decide_true, decide_false]; rfl) (by simp only [go_sem, seval, ↓reduceIte, decide_true, decide_false]; rfl) (by simp) ?_)
  rfl
end Go.Proofs.YtdnaecmcbkfpaaaGreat
