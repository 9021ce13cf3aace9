/-
  Sums, compositions, blocks.
-/
import Derived.Test.YtdnaecmcbkfpaaaGreatHc
import Derived.Test.YtdnaecmcbkfpaaaGreatLd
namespace Go.Proofs.YtdnaecmcbkfpaaaGreat
open Go.RowKit
set_option linter.unusedSimpArgs false
set_option linter.unusedVariables false
set_option linter.unusedSectionVars false
set_option maxRecDepth 20000
-- Sums, compositions, blocks.
theorem upto_set {n i : Nat} {f : Nat → Int} : (tab n (fun j => if j < i then f j else 0)).set i (f i) = tab n (fun j => if j < i + 1 then f j else 0) := tab_set' fun j _ => by
  by_cases e : j = i
  · subst e; simp
  · rw [if_neg e]
    by_cases h : j < i
    · rw [if_pos h, if_pos (by omega)]
    · rw [if_neg h, if_neg (by omega)]
theorem upto_zero {n : Nat} {f : Nat → Int} : tab n (fun j => if j < 0 then f j else 0) = tab n (fun _ => 0) := tab_congr fun j _ => by simp
theorem upto_end {n i : Nat} {f : Nat → Int} (h : n ≤ i) : tab n (fun j => if j < i then f j else 0) = tab n f := tab_congr fun j hj => by rw [if_pos (by omega)]
set_option maxHeartbeats 1000000 in
theorem c_impl_Series_plus (m : Int) (la lb : List Int) (d : Nat) (hm : 0 < m) (hm2 : m ≤ 10000) (ha : ∀ x ∈ la, 0 ≤ x ∧ x < m) (hb : ∀ x ∈ lb, 0 ≤ x ∧ x < m) (hla : la.length = d + 1) (hlb : lb.length = d + 1) (hd : d ≤ 1000000) : AFn Tryz.prog 99 [.agg [.int .i64 m, .sl false 2 (intL la)], .agg [.int .i64 m, .sl false 2 (intL lb)]] (.agg [.int .i64 m, .sl true 2 (intL (tab (d + 1) (fun j => (at' la j + at' lb j) % m)))]) := by
  refine AFn.of' ttOk (by decide) Tryz.func99 Tryz.ntmps99 (by rw [Tryz.results99]) (by rfl) (by rfl) (by simp) (by decide) (by simp only [go_sem, Nat.reduceAdd, ↓reduceIte]; rfl) mixed (fun C hP hM hC => ?_)
  have hm0 : m ≠ 0 := by omega
  (repeat (first | ((with_reducible refine rgn_cons rfl (fun K hK => ?_)); simp only [go_sem, seval, ↓reduceIte, decide_true, decide_false]; (first | refine hK _ _ _ (by simp only [go_sem, Nat.reduceEqDiff, ↓reduceIte]; rfl) ?_ | refine ⟨_, c_impl_Series_degree m la (by omega), hK _ _ _ (by simp only [go_sem, Nat.reduceEqDiff, ↓reduceIte]; rfl) ?_⟩ | refine ⟨_, c_impl_zero m ((la.length : Int) - 1) (d + 1) (by omega) (by omega), hK _ _ _ (by simp only [go_sem, Nat.reduceEqDiff, ↓reduceIte]; rfl) ?_⟩); clear hK; clear K) | (with_reducible first | refine rgn_nil (by first | trivial | kernel_rfl) ?_ | refine AWP.seq ?_ | refine tX hC hP (by kernel_rfl) ?_ | refine aX hC hM hP (by kernel_rfl) ?_ | refine AWP.skip ?_ | refine AWP.label ?_ | refine AWP.exit ?_ | refine AWP.block ?_ | refine cTa ?_ | refine cFa ?_) | simp only [qS, Nat.reduceEqDiff, ↓reduceIte]))
  refine AWP.loop (fun i : Nat => [(15, ⟨0, .val (.int .i64 i)⟩), (14, ⟨0, .val (.int .i64 (d + 1 : Nat))⟩), (5, ⟨2, .own (.box 31 (.agg [.int .i64 m, .sl true 2 (intL (tab (d + 1) (fun j => if j < i then (at' la j + at' lb j) % m else 0)))]))⟩), (2, ⟨1, .own (.box 31 (.agg [.int .i64 m, .sl false 2 (intL la)]))⟩), (3, ⟨1, .own (.box 31 (.agg [.int .i64 m, .sl false 2 (intL lb)]))⟩), (4, ⟨1, .own (.box 31 (.agg [.int .i64 0, .nil]))⟩)]) (fun i => i ≤ d + 1) (fun i => d + 1 - i) 0 (Nat.zero_le _) (fun i => rfl) ?_ (fun i hi => ?_)
  · simp [Sub, lk, tab_length]
  · by_cases hlt : i < d + 1
    · have hI : (i : Int) < ((d + 1 : Nat) : Int) := by omega
      have hx := at_bound ha hm i
      have hy := at_bound hb hm i
      have hlen : i < (tab (d + 1) (fun j => if j < i then (at' la j + at' lb j) % m else 0)).length := by rw [tab_length]; exact hlt
      (repeat (first | ((with_reducible refine rgn_cons rfl (fun K hK => ?_)); simp only [go_sem, seval, ↓reduceIte, decide_true, decide_false, hI, decide_true, hm0, hla, hlb, intL_getD la i (by omega), intL_getD lb i (by omega), show la.getD i 0 = at' la i from rfl, show lb.getD i 0 = at' lb i from rfl, Int.toNat_natCast, Int.natCast_nonneg, tab_length, wid (at' la i + at' lb i) (by omega) (by omega), tm (at' la i + at' lb i) m (by omega), intL_get _ _ hlen, sizeL_take _ _ (Nat.le_of_lt hlen), Nat.mul_one, intL_modify, upto_set (f := fun j => (at' la j + at' lb j) % m), wid ((i : Int) + 1) (by omega) (by omega)]; (refine hK _ _ _ (by simp only [go_sem, Nat.reduceEqDiff, ↓reduceIte]; rfl) ?_); clear hK; clear K) | (with_reducible first | refine rgn_nil (by first | trivial | kernel_rfl) ?_ | refine AWP.seq ?_ | refine tX hC hP (by kernel_rfl) ?_ | refine aX hC hM hP (by kernel_rfl) ?_ | refine AWP.skip ?_ | refine AWP.label ?_ | refine AWP.exit ?_ | refine AWP.block ?_ | refine cTa ?_ | refine cFa ?_) | simp only [qS, Nat.reduceEqDiff, ↓reduceIte]))
      exact ⟨i + 1, by omega, by omega, by simp [Sub, lk]⟩
    · (repeat (first | ((with_reducible refine rgn_cons rfl (fun K hK => ?_)); simp only [go_sem, seval, ↓reduceIte, decide_true, decide_false, show ¬ (i : Int) < ((d + 1 : Nat) : Int) by omega, decide_false]; (refine hK _ _ _ (by simp only [go_sem, Nat.reduceEqDiff, ↓reduceIte]; rfl) ?_); clear hK; clear K) | (with_reducible first | refine rgn_nil (by first | trivial | kernel_rfl) ?_ | refine AWP.seq ?_ | refine tX hC hP (by kernel_rfl) ?_ | refine aX hC hM hP (by kernel_rfl) ?_ | refine AWP.skip ?_ | refine AWP.label ?_ | refine AWP.exit ?_ | refine AWP.block ?_ | refine cTa ?_ | refine cFa ?_) | simp only [qS, Nat.reduceEqDiff, ↓reduceIte]))
      (refine AWP.ret ?_; refine retOk1 (by simp only [go_sem, seval, ↓reduceIte, decide_true, decide_false]; rfl) ?_)
      rw [upto_end (f := fun j => (at' la j + at' lb j) % m) (by omega)]
set_option maxHeartbeats 1000000 in
theorem c_impl_monomial (m c : Int) (d n : Nat) (hn : n ≤ d) (hd : d ≤ 1000000) : AFn Tryz.prog 79 [.int .i64 m, .int .i64 d, .int .i64 n, .int .i64 c] (.agg [.int .i64 m, .sl true 2 (intL (mono d n c))]) := by
  refine AFn.of' ttOk (by decide) Tryz.func79 Tryz.ntmps79 (by rw [Tryz.results79]) (by rfl) (by rfl) (by simp) (by decide) (by simp only [go_sem, Nat.reduceAdd, ↓reduceIte]; rfl) mixed (fun C hP hM hC => ?_)
  have hlen : n < (tab (d + 1) (fun _ => 0)).length := by rw [tab_length]; omega
  (repeat (first | ((with_reducible refine rgn_cons rfl (fun K hK => ?_)); simp only [go_sem, seval, ↓reduceIte, decide_true, decide_false, Int.toNat_natCast, Int.natCast_nonneg, tab_length, show (n : Int) < ((d + 1 : Nat) : Int) by omega, intL_get _ _ hlen, sizeL_take _ _ (Nat.le_of_lt hlen), Nat.mul_one, intL_modify, tab_set]; (first | refine hK _ _ _ (by simp only [go_sem, Nat.reduceEqDiff, ↓reduceIte]; rfl) ?_ | refine ⟨_, c_impl_zero m (d : Int) (d + 1) (by omega) (by omega), hK _ _ _ (by simp only [go_sem, Nat.reduceEqDiff, ↓reduceIte]; rfl) ?_⟩); clear hK; clear K) | (with_reducible first | refine rgn_nil (by first | trivial | kernel_rfl) ?_ | refine AWP.seq ?_ | refine tX hC hP (by kernel_rfl) ?_ | refine aX hC hM hP (by kernel_rfl) ?_ | refine AWP.skip ?_ | refine AWP.label ?_ | refine AWP.exit ?_ | refine AWP.block ?_ | refine cTa ?_ | refine cFa ?_) | simp only [qS, Nat.reduceEqDiff, ↓reduceIte]))
  (refine AWP.ret ?_; refine retOk1 (by simp only [go_sem, seval, ↓reduceIte, decide_true, decide_false]; rfl) ?_)
  rfl
set_option maxHeartbeats 1000000 in
theorem c_impl_Series_compose (m : Int) (la lf : List Int) (d : Nat) (hm : 1 < m) (hm2 : m ≤ 10000) (ha : ∀ x ∈ la, 0 ≤ x ∧ x < m) (hf : ∀ x ∈ lf, 0 ≤ x ∧ x < m) (hla : la.length = d + 1) (hlf : lf.length = d + 1) (hd : d ≤ 999999) : AFn Tryz.prog 78 [.agg [.int .i64 m, .sl false 2 (intL la)], .agg [.int .i64 m, .sl false 2 (intL lf)]] (.agg [.int .i64 m, .sl true 2 (intL (cmpL m la lf d (d + 1)))]) := by
  refine AFn.of' ttOk (by decide) Tryz.func78 Tryz.ntmps78 (by rw [Tryz.results78]) (by rfl) (by rfl) (by simp) (by decide) (by simp only [go_sem, Nat.reduceAdd, ↓reduceIte]; rfl) mixed (fun C hP hM hC => ?_)
  have h0 := c_impl_Series_constant m la 0 (by omega) (by omega) (by omega) (by omega)
  rw [hla, show tab (d + 1) (fun j => if j = 0 then (0 : Int) % m else 0) = cmpL m la lf d 0 from tab_congr fun j _ => by simp] at h0
  (repeat (first | ((with_reducible refine rgn_cons rfl (fun K hK => ?_)); simp only [go_sem, seval, ↓reduceIte, decide_true, decide_false, hla]; (first | refine hK _ _ _ (by simp only [go_sem, Nat.reduceEqDiff, ↓reduceIte]; rfl) ?_ | refine ⟨_, h0, hK _ _ _ (by simp only [go_sem, Nat.reduceEqDiff, ↓reduceIte]; rfl) ?_⟩ | refine ⟨_, c_impl_Series_degree m la (by omega), hK _ _ _ (by simp only [go_sem, Nat.reduceEqDiff, ↓reduceIte]; rfl) ?_⟩); clear hK; clear K) | (with_reducible first | refine rgn_nil (by first | trivial | kernel_rfl) ?_ | refine AWP.seq ?_ | refine tX hC hP (by kernel_rfl) ?_ | refine aX hC hM hP (by kernel_rfl) ?_ | refine AWP.skip ?_ | refine AWP.label ?_ | refine AWP.exit ?_ | refine AWP.block ?_ | refine cTa ?_ | refine cFa ?_) | simp only [qS, Nat.reduceEqDiff, ↓reduceIte]))
  refine AWP.loop (fun w : Nat × Nat => [(6, ⟨0, .val (.int .i64 ((d : Int) - w.1))⟩), (5, ⟨w.2, .own (.box 31 (.agg [.int .i64 m, .sl true 2 (intL (cmpL m la lf d w.1))]))⟩), (2, ⟨1, .own (.box 31 (.agg [.int .i64 m, .sl false 2 (intL la)]))⟩), (3, ⟨1, .own (.box 31 (.agg [.int .i64 m, .sl false 2 (intL lf)]))⟩), (4, ⟨1, .own (.box 31 (.agg [.int .i64 0, .nil]))⟩)]) (fun w => w.1 ≤ d + 1) (fun w => d + 1 - w.1) (0, 2) (Nat.zero_le _) (fun i => rfl) ?_ (fun w hw => ?_)
  · simp [Sub, lk, hla]
  · obtain ⟨k, v⟩ := w
    simp only at hw ⊢
    by_cases hk : k ≤ d
    · have hx := at_bound ha (show 0 < m by omega) (d - k)
      have hT := c_impl_Series_times m (cmpL m la lf d k) lf d (by omega) hm2 (cmpL_num (by omega) _ _ _ _) hf (cmpL_length _ _ _ _ _) hlf (by omega)
      have hZ := c_impl_Series_constant m la (at' la (d - k)) (by omega) (by omega) (by omega) (by omega)
      rw [hla] at hZ
      have hP2 := c_impl_Series_plus m (timesL m (cmpL m la lf d k) lf d) (tab (d + 1) (fun j => if j = 0 then at' la (d - k) % m else 0)) d (by omega) hm2 (timesL_num _ _ _ _ (by omega)) (fun x hx => by obtain ⟨i, _, rfl⟩ := mem_tab.1 hx; split <;> first | exact emod_b _ m (by omega) | omega) (timesL_length _ _ _ _) (tab_length _ _) (by omega)
      rw [show tab (d + 1) (fun j => (at' (timesL m (cmpL m la lf d k) lf d) j + at' (tab (d + 1) (fun j => if j = 0 then at' la (d - k) % m else 0)) j) % m) = cmpL m la lf d (k + 1) from tab_congr fun j hj => by rw [timesL, at_tab hj, at_tab hj]] at hP2
      (repeat (first | ((with_reducible refine rgn_cons rfl (fun K hK => ?_)); simp only [go_sem, seval, ↓reduceIte, decide_true, decide_false, show (0 : Int) ≤ (d : Int) - k by omega, decide_true, show ((d : Int) - k).toNat = d - k by omega, hla, show (d : Int) - k < ((d + 1 : Nat) : Int) by omega, intL_getD la (d - k) (by omega), show la.getD (d - k) 0 = at' la (d - k) from rfl, wid ((d : Int) - k - 1) (by omega) (by omega)]; (first | refine hK _ _ _ (by simp only [go_sem, Nat.reduceEqDiff, ↓reduceIte]; rfl) ?_ | refine ⟨_, hT, hK _ _ _ (by simp only [go_sem, Nat.reduceEqDiff, ↓reduceIte]; rfl) ?_⟩ | refine ⟨_, hZ, hK _ _ _ (by simp only [go_sem, Nat.reduceEqDiff, ↓reduceIte]; rfl) ?_⟩ | refine ⟨_, hP2, hK _ _ _ (by simp only [go_sem, Nat.reduceEqDiff, ↓reduceIte]; rfl) ?_⟩); clear hK; clear K) | (with_reducible first | refine rgn_nil (by first | trivial | kernel_rfl) ?_ | refine AWP.seq ?_ | refine tX hC hP (by kernel_rfl) ?_ | refine aX hC hM hP (by kernel_rfl) ?_ | refine AWP.skip ?_ | refine AWP.label ?_ | refine AWP.exit ?_ | refine AWP.block ?_ | refine cTa ?_ | refine cFa ?_) | simp only [qS, Nat.reduceEqDiff, ↓reduceIte]))
      exact ⟨(k + 1, v + 1), by simp only; omega, by simp only; omega, by simp [Sub, lk]; omega⟩
    · (repeat (first | ((with_reducible refine rgn_cons rfl (fun K hK => ?_)); simp only [go_sem, seval, ↓reduceIte, decide_true, decide_false, show ¬ (0 : Int) ≤ (d : Int) - k by omega, decide_false]; (refine hK _ _ _ (by simp only [go_sem, Nat.reduceEqDiff, ↓reduceIte]; rfl) ?_); clear hK; clear K) | (with_reducible first | refine rgn_nil (by first | trivial | kernel_rfl) ?_ | refine AWP.seq ?_ | refine tX hC hP (by kernel_rfl) ?_ | refine aX hC hM hP (by kernel_rfl) ?_ | refine AWP.skip ?_ | refine AWP.label ?_ | refine AWP.exit ?_ | refine AWP.block ?_ | refine cTa ?_ | refine cFa ?_) | simp only [qS, Nat.reduceEqDiff, ↓reduceIte]))
      (refine AWP.ret ?_; refine retOk1 (by simp only [go_sem, seval, ↓reduceIte, decide_true, decide_false]; rfl) ?_)
      rw [show k = d + 1 by omega]
set_option maxHeartbeats 1000000 in
theorem c_impl_block (m c : Int) (l : List Int) (n d : Nat) (hm : 1 < m) (hm2 : m ≤ 10000) (ha : ∀ x ∈ l, 0 ≤ x ∧ x < m) (hl : l.length = d + 1) (hc : 0 ≤ c ∧ c < m) (hn : 0 < n) (hnd : n ≤ d) (hd : d ≤ 999999) : AFn Tryz.prog 48 [.agg [.int .i64 m, .sl false 2 (intL l)], .int .i64 c, .int .i64 n] (.agg [.int .i64 m, .sl true 2 (intL (blL m l c n d))]) := by
  refine AFn.of' ttOk (by decide) Tryz.func48 Tryz.ntmps48 (by rw [Tryz.results48]) (by rfl) (by rfl) (by simp) (by decide) (by simp only [go_sem, Nat.reduceAdd, ↓reduceIte]; rfl) mixed (fun C hP hM hC => ?_)
  have hM2 := c_impl_monomial m c d n hnd (by omega)
  have hZ := c_impl_Series_compose m l (mono d n c) d hm hm2 ha (fun x hx => by obtain ⟨i, _, rfl⟩ := mem_tab.1 hx; split <;> omega) hl (tab_length _ _) hd
  rw [cmpL_blL hn hnd] at hZ
  have hD := c_impl_Series_degree m l (by omega)
  rw [show (l.length : Int) - 1 = (d : Int) by omega] at hD
  (repeat (first | ((with_reducible refine rgn_cons rfl (fun K hK => ?_)); simp only [go_sem, seval, ↓reduceIte, decide_true, decide_false]; (first | refine hK _ _ _ (by simp only [go_sem, Nat.reduceEqDiff, ↓reduceIte]; rfl) ?_ | refine ⟨_, hD, hK _ _ _ (by simp only [go_sem, Nat.reduceEqDiff, ↓reduceIte]; rfl) ?_⟩ | refine ⟨_, hM2, hK _ _ _ (by simp only [go_sem, Nat.reduceEqDiff, ↓reduceIte]; rfl) ?_⟩ | refine ⟨_, hZ, hK _ _ _ (by simp only [go_sem, Nat.reduceEqDiff, ↓reduceIte]; rfl) ?_⟩); clear hK; clear K) | (with_reducible first | refine rgn_nil (by first | trivial | kernel_rfl) ?_ | refine AWP.seq ?_ | refine tX hC hP (by kernel_rfl) ?_ | refine aX hC hM hP (by kernel_rfl) ?_ | refine AWP.skip ?_ | refine AWP.label ?_ | refine AWP.exit ?_ | refine AWP.block ?_ | refine cTa ?_ | refine cFa ?_) | simp only [qS, Nat.reduceEqDiff, ↓reduceIte]))
  (refine AWP.ret ?_; refine retOk1 (by simp only [go_sem, seval, ↓reduceIte, decide_true, decide_false]; rfl) ?_)
  rfl
set_option maxHeartbeats 1000000 in
theorem c_spec_l15Block (m c : Int) (l : List Int) (n d : Nat) (hm : 1 < m) (hm2 : m ≤ 10000) (ha : ∀ x ∈ l, 0 ≤ x ∧ x < m) (hl : l.length = d + 1) (hc : 0 ≤ c ∧ c < m) (hn : 0 < n) (hn2 : n ≤ 1000000) (hd : d ≤ 999999) : AFn Tryz.prog 51 [.int .i64 m, .sl false 2 (intL l), .int .i64 c, .int .i64 n] (.sl true 2 (intL (blL m l c n d))) := by
  refine AFn.of' ttOk (by decide) Tryz.func51 Tryz.ntmps51 (by rw [Tryz.results51]) (by rfl) (by rfl) (by simp) (by decide) (by simp only [go_sem, Nat.reduceAdd, ↓reduceIte]; rfl) mixed (fun C hP hM hC => ?_)
  have hm0 : m ≠ 0 := by omega
  (repeat (first | ((with_reducible refine rgn_cons rfl (fun K hK => ?_)); simp only [go_sem, seval, ↓reduceIte, decide_true, decide_false, hl, Int.toNat_natCast, Int.natCast_nonneg, show ((d + 1 : Nat) : Int) ≤ 1099511627776 by omega, intL_replicate, tab_zero]; (refine hK _ _ _ (by simp only [go_sem, Nat.reduceEqDiff, ↓reduceIte]; rfl) ?_); clear hK; clear K) | (with_reducible first | refine rgn_nil (by first | trivial | kernel_rfl) ?_ | refine AWP.seq ?_ | refine tX hC hP (by kernel_rfl) ?_ | refine aX hC hM hP (by kernel_rfl) ?_ | refine AWP.skip ?_ | refine AWP.label ?_ | refine AWP.exit ?_ | refine AWP.block ?_ | refine cTa ?_ | refine cFa ?_) | simp only [qS, Nat.reduceEqDiff, ↓reduceIte]))
  refine AWP.loop (fun q : Nat => [(11, ⟨0, .val (.int .i64 q)⟩), (10, ⟨0, .val (.int .i64 (c ^ q % m))⟩), (9, ⟨1, .own (.sl true 2 (intL (tab (d + 1) (blG m l c n q))))⟩), (0, ⟨0, .val (.int .i64 m)⟩), (1, ⟨0, .val (.sl false 2 (intL l))⟩), (2, ⟨0, .val (.int .i64 c)⟩), (3, ⟨0, .val (.int .i64 n)⟩)]) (fun q => q ≤ d + 1) (fun q => d + 1 - q) 0 (Nat.zero_le _) (fun i => rfl) ?_ (fun q hq => ?_)
  · have e1 : (1 : Int) % m = 1 := Int.emod_eq_of_lt (by omega) (by omega)
    have e2 : tab (d + 1) (blG m l c n 0) = tab (d + 1) (fun _ => 0) := tab_congr fun j _ => by simp [blG]
    simp [Sub, lk, e1, e2]
  · have hqn : q * n ≤ 1000000 * 1000000 := Nat.mul_le_mul (by omega) hn2
    have hqn2 := Nat.le_mul_of_pos_right q hn
    by_cases hlt : q * n < d + 1
    · have hx := at_bound ha (show 0 < m by omega) q
      have hb := emod_b (c ^ q) m (by omega)
      have h1 := mul_bound4 hx.1 hx.2 hb.1 hb.2 hm2
      have h2 := mul_bound4 hb.1 hb.2 hc.1 hc.2 hm2
      have hlen : q * n < (tab (d + 1) (blG m l c n q)).length := by rw [tab_length]; exact hlt
      (repeat (first | ((with_reducible refine rgn_cons rfl (fun K hK => ?_)); simp only [go_sem, seval, ↓reduceIte, decide_true, decide_false, ← Int.natCast_mul, widM (q * n) (by omega), hl, show ((q * n : Nat) : Int) < ((d + 1 : Nat) : Int) by omega, decide_true, show (q : Int) < ((d + 1 : Nat) : Int) by omega, hm0, intL_getD l q (by omega), show l.getD q 0 = at' l q from rfl, Int.toNat_natCast, Int.natCast_nonneg, tab_length, wid (at' l q * (c ^ q % m)) (by omega) (by omega), tm _ m h1.1, mul_emod_r, intL_get _ _ hlen, sizeL_take _ _ (Nat.le_of_lt hlen), Nat.mul_one, intL_modify, tab_set' (fun j _ => blG_set hn j), wid (c ^ q % m * c) (by omega) (by omega), tm _ m h2.1, mul_emod_l, ← Int.pow_succ, wid ((q : Int) + 1) (by omega) (by omega)]; (refine hK _ _ _ (by simp only [go_sem, Nat.reduceEqDiff, ↓reduceIte]; rfl) ?_); clear hK; clear K) | (with_reducible first | refine rgn_nil (by first | trivial | kernel_rfl) ?_ | refine AWP.seq ?_ | refine tX hC hP (by kernel_rfl) ?_ | refine aX hC hM hP (by kernel_rfl) ?_ | refine AWP.skip ?_ | refine AWP.label ?_ | refine AWP.exit ?_ | refine AWP.block ?_ | refine cTa ?_ | refine cFa ?_) | simp only [qS, Nat.reduceEqDiff, ↓reduceIte]))
      exact ⟨q + 1, by omega, by omega, by simp [Sub, lk]⟩
    · (repeat (first | ((with_reducible refine rgn_cons rfl (fun K hK => ?_)); simp only [go_sem, seval, ↓reduceIte, decide_true, decide_false, ← Int.natCast_mul, widM (q * n) (by omega), hl, show ¬ ((q * n : Nat) : Int) < ((d + 1 : Nat) : Int) by omega, decide_false]; (refine hK _ _ _ (by simp only [go_sem, Nat.reduceEqDiff, ↓reduceIte]; rfl) ?_); clear hK; clear K) | (with_reducible first | refine rgn_nil (by first | trivial | kernel_rfl) ?_ | refine AWP.seq ?_ | refine tX hC hP (by kernel_rfl) ?_ | refine aX hC hM hP (by kernel_rfl) ?_ | refine AWP.skip ?_ | refine AWP.label ?_ | refine AWP.exit ?_ | refine AWP.block ?_ | refine cTa ?_ | refine cFa ?_) | simp only [qS, Nat.reduceEqDiff, ↓reduceIte]))
      (refine AWP.ret ?_; refine retOk1 (by simp only [go_sem, seval, ↓reduceIte, decide_true, decide_false]; rfl) ?_)
      rw [blG_end hn (by omega)]
end Go.Proofs.YtdnaecmcbkfpaaaGreat
