/-
  Sums, multiples and compositions of series.
-/
import Derived.Test.YtapdekacpecgiaaGreatLd
import Derived.Test.YtapdekacpecgiaaGreatLd
import Derived.Test.YtapdekacpecgiaaGreatKb
namespace Go.Proofs.YtapdekacpecgiaaGreat
open Go.RowKit
set_option linter.unusedSimpArgs false
set_option linter.unusedVariables false
set_option linter.unusedSectionVars false
set_option maxRecDepth 20000
-- Sums, multiples and compositions of series.
def cmpL (m : Int) (a f : List Int) (d : Nat) : Nat → List Int
  | 0 => tab (d + 1) (fun _ => 0)
  | k + 1 => tab (d + 1) (fun j => (cv (at' (cmpL m a f d k)) (at' f) j % m + (if j = 0 then at' a (d - k) % m else 0)) % m)
theorem cmpL_length (m : Int) (a f : List Int) (d k : Nat) : (cmpL m a f d k).length = d + 1 := by
  cases k <;> exact tab_length _ _
theorem cmpL_num {m : Int} (hm : 0 < m) (a f : List Int) (d k : Nat) : ∀ x ∈ cmpL m a f d k, 0 ≤ x ∧ x < m := by
  intro x hx
  cases k with
  | zero => obtain ⟨i, _, rfl⟩ := mem_tab.1 hx; omega
  | succ k => obtain ⟨i, _, rfl⟩ := mem_tab.1 hx; exact emod_b _ m hm
theorem upto_set {n i : Nat} {f : Nat → Int} : (tab n (fun j => if j < i then f j else 0)).set i (f i) = tab n (fun j => if j < i + 1 then f j else 0) := tab_set' fun j _ => by
  by_cases e : j = i
  · subst e; simp
  · rw [if_neg e]
    by_cases h : j < i
    · rw [if_pos h, if_pos (by omega)]
    · rw [if_neg h, if_neg (by omega)]
theorem upto_end {n i : Nat} {f : Nat → Int} (h : n ≤ i) : tab n (fun j => if j < i then f j else 0) = tab n f := tab_congr fun j hj => by rw [if_pos (by omega)]
set_option maxHeartbeats 1000000 in
theorem c_impl_Series_plus (m : Int) (la lb : List Int) (d : Nat) (hm : 0 < m) (hm2 : m ≤ 10000) (ha : ∀ x ∈ la, 0 ≤ x ∧ x < m) (hb : ∀ x ∈ lb, 0 ≤ x ∧ x < m) (hla : la.length = d + 1) (hlb : lb.length = d + 1) (hd : d ≤ 1000000) : AFn Tryz.prog 178 [.agg [.int .i64 m, .sl false 2 (intL la)], .agg [.int .i64 m, .sl false 2 (intL lb)]] (.agg [.int .i64 m, .sl true 2 (intL (tab (d + 1) (fun j => (at' la j + at' lb j) % m)))]) := by
  refine AFn.of' ttOk (by decide) Tryz.func178 Tryz.ntmps178 (by rw [Tryz.results178]) (by rfl) (by rfl) (by simp) (by decide) (by simp only [go_sem, Nat.reduceAdd, ↓reduceIte]; rfl) mixed (fun C hP hM hC => ?_)
  have hm0 : m ≠ 0 := by omega
  (repeat (first | ((with_reducible refine rgn_cons rfl (fun K hK => ?_)); simp only [go_sem, seval, ↓reduceIte, decide_true, decide_false]; (first | refine hK _ _ _ (by simp only [go_sem, Nat.reduceEqDiff, ↓reduceIte]; rfl) ?_ | refine ⟨_, c_impl_Series_degree m la (by omega), hK _ _ _ (by simp only [go_sem, Nat.reduceEqDiff, ↓reduceIte]; rfl) ?_⟩ | refine ⟨_, c_impl_zero m ((la.length : Int) - 1) (d + 1) (by omega) (by omega), hK _ _ _ (by simp only [go_sem, Nat.reduceEqDiff, ↓reduceIte]; rfl) ?_⟩); clear hK; clear K) | (with_reducible first | refine rgn_nil (by first | trivial | kernel_rfl) ?_ | refine AWP.seq ?_ | refine tX hC hP (by kernel_rfl) ?_ | refine aX hC hM hP (by kernel_rfl) ?_ | refine AWP.skip ?_ | refine AWP.label ?_ | refine AWP.exit ?_ | refine AWP.block ?_ | refine cTa ?_ | refine cFa ?_) | simp only [qS, Nat.reduceEqDiff, ↓reduceIte]))
  refine AWP.loop (fun i : Nat => [(15, ⟨0, .val (.int .i64 i)⟩), (14, ⟨0, .val (.int .i64 (d + 1 : Nat))⟩), (5, ⟨2, .own (.box 29 (.agg [.int .i64 m, .sl true 2 (intL (tab (d + 1) (fun j => if j < i then (at' la j + at' lb j) % m else 0)))]))⟩), (2, ⟨1, .own (.box 29 (.agg [.int .i64 m, .sl false 2 (intL la)]))⟩), (3, ⟨1, .own (.box 29 (.agg [.int .i64 m, .sl false 2 (intL lb)]))⟩), (4, ⟨1, .own (.box 29 (.agg [.int .i64 0, .nil]))⟩)]) (fun i => i ≤ d + 1) (fun i => d + 1 - i) 0 (Nat.zero_le _) (fun i => rfl) ?_ (fun i hi => ?_)
  · simp [Sub, lk, tab_length]
  · by_cases hlt : i < d + 1
    · have hI : (i : Int) < ((d + 1 : Nat) : Int) := by omega
      have hx := at_bound ha hm i
      have hy := at_bound hb hm i
      have hlen : i < (tab (d + 1) (fun j => if j < i then (at' la j + at' lb j) % m else 0)).length := by rw [tab_length]; exact hlt
      (repeat (first | ((with_reducible refine rgn_cons rfl (fun K hK => ?_)); simp only [go_sem, seval, ↓reduceIte, decide_true, decide_false, hI, decide_true, hm0, hla, hlb, intL_getD la i (by omega), intL_getD lb i (by omega), show la.getD i 0 = at' la i from rfl, show lb.getD i 0 = at' lb i from rfl, Int.toNat_natCast, Int.natCast_nonneg, tab_length, wid (at' la i + at' lb i) (by omega) (by omega), tm (at' la i + at' lb i) m (by omega), intL_get _ _ hlen, sizeL_take _ _ (Nat.le_of_lt hlen), Nat.mul_one, intL_modify, upto_set (f := fun j => (at' la j + at' lb j) % m), wid ((i : Int) + 1) (by omega) (by omega)]; (refine hK _ _ _ (by simp only [go_sem, Nat.reduceEqDiff, ↓reduceIte]; rfl) ?_); clear hK; clear K) | (with_reducible first | refine rgn_nil (by first | trivial | kernel_rfl) ?_ | refine AWP.seq ?_ | refine tX hC hP (by kernel_rfl) ?_ | refine aX hC hM hP (by kernel_rfl) ?_ | refine AWP.skip ?_ | refine AWP.label ?_ | refine AWP.exit ?_ | refine AWP.block ?_ | refine cTa ?_ | refine cFa ?_) | simp only [qS, Nat.reduceEqDiff, ↓reduceIte]))
      exact ⟨i + 1, by omega, by omega, by simp [Sub, lk]⟩
    · (repeat (first | ((with_reducible refine rgn_cons rfl (fun K hK => ?_)); simp only [go_sem, seval, ↓reduceIte, decide_true, decide_false, show ¬ (i : Int) < ((d + 1 : Nat) : Int) by omega, decide_false]; (refine hK _ _ _ (by simp only [go_sem, Nat.reduceEqDiff, ↓reduceIte]; rfl) ?_); clear hK; clear K) | (with_reducible first | refine rgn_nil (by first | trivial | kernel_rfl) ?_ | refine AWP.seq ?_ | refine tX hC hP (by kernel_rfl) ?_ | refine aX hC hM hP (by kernel_rfl) ?_ | refine AWP.skip ?_ | refine AWP.label ?_ | refine AWP.exit ?_ | refine AWP.block ?_ | refine cTa ?_ | refine cFa ?_) | simp only [qS, Nat.reduceEqDiff, ↓reduceIte]))
      (refine AWP.ret ?_; refine retOk1 (by simp only [go_sem, seval, ↓reduceIte, decide_true, decide_false]; rfl) ?_)
      rw [upto_end (f := fun j => (at' la j + at' lb j) % m) (by omega)]
set_option maxHeartbeats 1000000 in
theorem c_impl_Series_compose (m : Int) (la lf : List Int) (d : Nat) (hm : 1 < m) (hm2 : m ≤ 10000) (ha : ∀ x ∈ la, 0 ≤ x ∧ x < m) (hf : ∀ x ∈ lf, 0 ≤ x ∧ x < m) (hla : la.length = d + 1) (hlf : lf.length = d + 1) (hd : d ≤ 999999) : AFn Tryz.prog 96 [.agg [.int .i64 m, .sl false 2 (intL la)], .agg [.int .i64 m, .sl false 2 (intL lf)]] (.agg [.int .i64 m, .sl true 2 (intL (cmpL m la lf d (d + 1)))]) := by
  refine AFn.of' ttOk (by decide) Tryz.func96 Tryz.ntmps96 (by rw [Tryz.results96]) (by rfl) (by rfl) (by simp) (by decide) (by simp only [go_sem, Nat.reduceAdd, ↓reduceIte]; rfl) mixed (fun C hP hM hC => ?_)
  have h0 := c_impl_Series_constant m la 0 (by omega) (by omega) (by omega) (by omega)
  rw [hla, show tab (d + 1) (fun j => if j = 0 then (0 : Int) % m else 0) = cmpL m la lf d 0 from tab_congr fun j _ => by simp] at h0
  (repeat (first | ((with_reducible refine rgn_cons rfl (fun K hK => ?_)); simp only [go_sem, seval, ↓reduceIte, decide_true, decide_false, hla]; (first | refine hK _ _ _ (by simp only [go_sem, Nat.reduceEqDiff, ↓reduceIte]; rfl) ?_ | refine ⟨_, h0, hK _ _ _ (by simp only [go_sem, Nat.reduceEqDiff, ↓reduceIte]; rfl) ?_⟩ | refine ⟨_, c_impl_Series_degree m la (by omega), hK _ _ _ (by simp only [go_sem, Nat.reduceEqDiff, ↓reduceIte]; rfl) ?_⟩); clear hK; clear K) | (with_reducible first | refine rgn_nil (by first | trivial | kernel_rfl) ?_ | refine AWP.seq ?_ | refine tX hC hP (by kernel_rfl) ?_ | refine aX hC hM hP (by kernel_rfl) ?_ | refine AWP.skip ?_ | refine AWP.label ?_ | refine AWP.exit ?_ | refine AWP.block ?_ | refine cTa ?_ | refine cFa ?_) | simp only [qS, Nat.reduceEqDiff, ↓reduceIte]))
  refine AWP.loop (fun w : Nat × Nat => [(6, ⟨0, .val (.int .i64 ((d : Int) - w.1))⟩), (5, ⟨w.2, .own (.box 29 (.agg [.int .i64 m, .sl true 2 (intL (cmpL m la lf d w.1))]))⟩), (2, ⟨1, .own (.box 29 (.agg [.int .i64 m, .sl false 2 (intL la)]))⟩), (3, ⟨1, .own (.box 29 (.agg [.int .i64 m, .sl false 2 (intL lf)]))⟩), (4, ⟨1, .own (.box 29 (.agg [.int .i64 0, .nil]))⟩)]) (fun w => w.1 ≤ d + 1) (fun w => d + 1 - w.1) (0, 2) (Nat.zero_le _) (fun i => rfl) ?_ (fun w hw => ?_)
  · simp [Sub, lk, hla]
  · obtain ⟨k, v⟩ := w
    simp only at hw ⊢
    by_cases hk : k ≤ d
    · have hx := at_bound ha (show 0 < m by omega) (d - k)
      have hT := c_impl_Series_times m (cmpL m la lf d k) lf d (by omega) hm2 (cmpL_num (by omega) _ _ _ _) hf (cmpL_length _ _ _ _ _) hlf (by omega)
      have hZ := c_impl_Series_constant m la (at' la (d - k)) (by omega) (by omega) (by omega) (by omega)
      rw [hla] at hZ
      have hP2 := c_impl_Series_plus m (timesL m (cmpL m la lf d k) lf d) (tab (d + 1) (fun j => if j = 0 then at' la (d - k) % m else 0)) d (by omega) hm2 (timesL_num _ _ _ _ (by omega)) (fun x hx => by obtain ⟨i, _, rfl⟩ := mem_tab.1 hx; split <;> first | exact emod_b _ m (by omega) | omega) (timesL_length _ _ _ _) (tab_length _ _) (by omega)
      rw [show tab (d + 1) (fun j => (at' (timesL m (cmpL m la lf d k) lf d) j + at' (tab (d + 1) (fun j => if j = 0 then at' la (d - k) % m else 0)) j) % m) = cmpL m la lf d (k + 1) from tab_congr fun j hj => by rw [timesL, at_tab hj, at_tab hj]] at hP2
      (repeat (first | ((with_reducible refine rgn_cons rfl (fun K hK => ?_)); simp only [go_sem, seval, ↓reduceIte, decide_true, decide_false, show (0 : Int) ≤ (d : Int) - k by omega, decide_true, show ((d : Int) - k).toNat = d - k by omega, hla, show (d : Int) - k < ((d + 1 : Nat) : Int) by omega, intL_getD la (d - k) (by omega), show la.getD (d - k) 0 = at' la (d - k) from rfl, wid ((d : Int) - k - 1) (by omega) (by omega)]; (first | refine hK _ _ _ (by simp only [go_sem, Nat.reduceEqDiff, ↓reduceIte]; rfl) ?_ | refine ⟨_, hT, hK _ _ _ (by simp only [go_sem, Nat.reduceEqDiff, ↓reduceIte]; rfl) ?_⟩ | refine ⟨_, hZ, hK _ _ _ (by simp only [go_sem, Nat.reduceEqDiff, ↓reduceIte]; rfl) ?_⟩ | refine ⟨_, hP2, hK _ _ _ (by simp only [go_sem, Nat.reduceEqDiff, ↓reduceIte]; rfl) ?_⟩); clear hK; clear K) | (with_reducible first | refine rgn_nil (by first | trivial | kernel_rfl) ?_ | refine AWP.seq ?_ | refine tX hC hP (by kernel_rfl) ?_ | refine aX hC hM hP (by kernel_rfl) ?_ | refine AWP.skip ?_ | refine AWP.label ?_ | refine AWP.exit ?_ | refine AWP.block ?_ | refine cTa ?_ | refine cFa ?_) | simp only [qS, Nat.reduceEqDiff, ↓reduceIte]))
      exact ⟨(k + 1, v + 1), by simp only; omega, by simp only; omega, by simp [Sub, lk]; omega⟩
    · (repeat (first | ((with_reducible refine rgn_cons rfl (fun K hK => ?_)); simp only [go_sem, seval, ↓reduceIte, decide_true, decide_false, show ¬ (0 : Int) ≤ (d : Int) - k by omega, decide_false]; (refine hK _ _ _ (by simp only [go_sem, Nat.reduceEqDiff, ↓reduceIte]; rfl) ?_); clear hK; clear K) | (with_reducible first | refine rgn_nil (by first | trivial | kernel_rfl) ?_ | refine AWP.seq ?_ | refine tX hC hP (by kernel_rfl) ?_ | refine aX hC hM hP (by kernel_rfl) ?_ | refine AWP.skip ?_ | refine AWP.label ?_ | refine AWP.exit ?_ | refine AWP.block ?_ | refine cTa ?_ | refine cFa ?_) | simp only [qS, Nat.reduceEqDiff, ↓reduceIte]))
      (refine AWP.ret ?_; refine retOk1 (by simp only [go_sem, seval, ↓reduceIte, decide_true, decide_false]; rfl) ?_)
      rw [show k = d + 1 by omega]
def addL (m : Int) (a b : List Int) (d : Nat) : List Int := tab (d + 1) (fun j => (at' a j + at' b j) % m)
def scL (m c : Int) (a : List Int) (d : Nat) : List Int := tab (d + 1) (fun j => c * at' a j % m)
theorem addL_num {m : Int} (hm : 0 < m) (a b : List Int) (d : Nat) : (addL m a b d).length = d + 1 ∧ ∀ x ∈ addL m a b d, 0 ≤ x ∧ x < m :=
  ⟨tab_length _ _, fun x hx => by obtain ⟨i, _, rfl⟩ := mem_tab.1 hx; exact emod_b _ m hm⟩
theorem scL_num {m : Int} (hm : 0 < m) (c : Int) (a : List Int) (d : Nat) : (scL m c a d).length = d + 1 ∧ ∀ x ∈ scL m c a d, 0 ≤ x ∧ x < m :=
  ⟨tab_length _ _, fun x hx => by obtain ⟨i, _, rfl⟩ := mem_tab.1 hx; exact emod_b _ m hm⟩
set_option maxHeartbeats 1000000 in
theorem c_impl_Series_scaled (m c : Int) (l : List Int) (d : Nat) (hm : 0 < m) (hm2 : m ≤ 10000) (ha : ∀ x ∈ l, 0 ≤ x ∧ x < m) (hl : l.length = d + 1) (hd : d ≤ 1000000) (hc : 0 ≤ c) (hc2 : c < m) : AFn Tryz.prog 161 [.agg [.int .i64 m, .sl false 2 (intL l)], .int .i64 c] (.agg [.int .i64 m, .sl true 2 (intL (scL m c l d))]) := by
  refine AFn.of' ttOk (by decide) Tryz.func161 Tryz.ntmps161 (by rw [Tryz.results161]) (by rfl) (by rfl) (by simp) (by decide) (by simp only [go_sem, Nat.reduceAdd, ↓reduceIte]; rfl) mixed (fun C hP hM hC => ?_)
  have hmc := c_impl_mod c m hm (by omega)
  rw [Int.emod_eq_of_lt hc hc2] at hmc
  (repeat (first | ((with_reducible refine rgn_cons rfl (fun K hK => ?_)); simp only [go_sem, seval, ↓reduceIte, decide_true, decide_false]; (first | refine hK _ _ _ (by simp only [go_sem, Nat.reduceEqDiff, ↓reduceIte]; rfl) ?_ | refine ⟨_, c_impl_Series_degree m l (by omega), hK _ _ _ (by simp only [go_sem, Nat.reduceEqDiff, ↓reduceIte]; rfl) ?_⟩ | refine ⟨_, c_impl_zero m ((l.length : Int) - 1) (d + 1) (by omega) (by omega), hK _ _ _ (by simp only [go_sem, Nat.reduceEqDiff, ↓reduceIte]; rfl) ?_⟩); clear hK; clear K) | (with_reducible first | refine rgn_nil (by first | trivial | kernel_rfl) ?_ | refine AWP.seq ?_ | refine tX hC hP (by kernel_rfl) ?_ | refine aX hC hM hP (by kernel_rfl) ?_ | refine AWP.skip ?_ | refine AWP.label ?_ | refine AWP.exit ?_ | refine AWP.block ?_ | refine cTa ?_ | refine cFa ?_) | simp only [qS, Nat.reduceEqDiff, ↓reduceIte]))
  refine AWP.loop (fun i : Nat => [(16, ⟨0, .val (.int .i64 i)⟩), (15, ⟨0, .val (.int .i64 (d + 1 : Nat))⟩), (14, ⟨0, .val (.sl false 2 (intL l))⟩), (5, ⟨2, .own (.box 29 (.agg [.int .i64 m, .sl true 2 (intL (tab (d + 1) (fun j => if j < i then c * at' l j % m else 0)))]))⟩), (2, ⟨1, .own (.box 29 (.agg [.int .i64 m, .sl false 2 (intL l)]))⟩), (1, ⟨0, .val (.int .i64 c)⟩), (4, ⟨1, .own (.box 29 (.agg [.int .i64 0, .nil]))⟩)]) (fun i => i ≤ d + 1) (fun i => d + 1 - i) 0 (Nat.zero_le _) (fun i => rfl) ?_ (fun i hi => ?_)
  · simp [Sub, lk, hl]
  · by_cases hlt : i < d + 1
    · have hx := at_bound ha hm i
      have hlen : i < (tab (d + 1) (fun j => if j < i then c * at' l j % m else 0)).length := by rw [tab_length]; exact hlt
      (repeat (first | ((with_reducible refine rgn_cons rfl (fun K hK => ?_)); simp only [go_sem, seval, ↓reduceIte, decide_true, decide_false, show (i : Int) < ((d + 1 : Nat) : Int) by omega, decide_true, hl, intL_getD l i (by omega), show l.getD i 0 = at' l i from rfl, Int.toNat_natCast, Int.natCast_nonneg, tab_length, intL_get _ _ hlen, sizeL_take _ _ (Nat.le_of_lt hlen), Nat.mul_one, intL_modify, upto_set (f := fun j => c * at' l j % m), wid ((i : Int) + 1) (by omega) (by omega)]; (first | refine hK _ _ _ (by simp only [go_sem, Nat.reduceEqDiff, ↓reduceIte]; rfl) ?_ | refine ⟨_, hmc, hK _ _ _ (by simp only [go_sem, Nat.reduceEqDiff, ↓reduceIte]; rfl) ?_⟩ | refine ⟨_, c_impl_mul m c (at' l i) hm (by omega) hc hc2 hx.1 hx.2, hK _ _ _ (by simp only [go_sem, Nat.reduceEqDiff, ↓reduceIte]; rfl) ?_⟩); clear hK; clear K) | (with_reducible first | refine rgn_nil (by first | trivial | kernel_rfl) ?_ | refine AWP.seq ?_ | refine tX hC hP (by kernel_rfl) ?_ | refine aX hC hM hP (by kernel_rfl) ?_ | refine AWP.skip ?_ | refine AWP.label ?_ | refine AWP.exit ?_ | refine AWP.block ?_ | refine cTa ?_ | refine cFa ?_) | simp only [qS, Nat.reduceEqDiff, ↓reduceIte]))
      exact ⟨i + 1, by omega, by omega, by simp [Sub, lk]⟩
    · (repeat (first | ((with_reducible refine rgn_cons rfl (fun K hK => ?_)); simp only [go_sem, seval, ↓reduceIte, decide_true, decide_false, show ¬ (i : Int) < ((d + 1 : Nat) : Int) by omega, decide_false]; (refine hK _ _ _ (by simp only [go_sem, Nat.reduceEqDiff, ↓reduceIte]; rfl) ?_); clear hK; clear K) | (with_reducible first | refine rgn_nil (by first | trivial | kernel_rfl) ?_ | refine AWP.seq ?_ | refine tX hC hP (by kernel_rfl) ?_ | refine aX hC hM hP (by kernel_rfl) ?_ | refine AWP.skip ?_ | refine AWP.label ?_ | refine AWP.exit ?_ | refine AWP.block ?_ | refine cTa ?_ | refine cFa ?_) | simp only [qS, Nat.reduceEqDiff, ↓reduceIte]))
      (refine AWP.ret ?_; refine retOk1 (by simp only [go_sem, seval, ↓reduceIte, decide_true, decide_false]; rfl) ?_)
      rw [upto_end (f := fun j => c * at' l j % m) (by omega)]; rfl
set_option maxHeartbeats 1000000 in
theorem c_spec_l02Add (m : Int) (la lb : List Int) (d : Nat) (hm : 0 < m) (hm2 : m ≤ 10000) (ha : ∀ x ∈ la, 0 ≤ x ∧ x < m) (hb : ∀ x ∈ lb, 0 ≤ x ∧ x < m) (hla : la.length = d + 1) (hlb : lb.length = d + 1) (hd : d ≤ 1000000) : AFn Tryz.prog 180 [.int .i64 m, .sl false 2 (intL la), .sl false 2 (intL lb)] (.sl true 2 (intL (addL m la lb d))) := by
  refine AFn.of' ttOk (by decide) Tryz.func180 Tryz.ntmps180 (by rw [Tryz.results180]) (by rfl) (by rfl) (by simp) (by decide) (by simp only [go_sem, Nat.reduceAdd, ↓reduceIte]; rfl) mixed (fun C hP hM hC => ?_)
  (repeat (first | ((with_reducible refine rgn_cons rfl (fun K hK => ?_)); simp only [go_sem, seval, ↓reduceIte, decide_true, decide_false]; (refine hK _ _ _ (by simp only [go_sem, Nat.reduceEqDiff, ↓reduceIte]; rfl) ?_); clear hK; clear K) | (with_reducible first | refine rgn_nil (by first | trivial | kernel_rfl) ?_ | refine AWP.seq ?_ | refine tX hC hP (by kernel_rfl) ?_ | refine aX hC hM hP (by kernel_rfl) ?_ | refine AWP.skip ?_ | refine AWP.label ?_ | refine AWP.exit ?_ | refine AWP.block ?_ | refine cTa ?_ | refine cFa ?_) | simp only [qS, Nat.reduceEqDiff, ↓reduceIte]))
  refine AWP.loop (fun w : Nat × Nat => [(8, ⟨0, .val (.int .i64 w.1)⟩), (7, ⟨w.2, .own (.sl true 2 (intL (tab w.1 (fun j => (at' la j + at' lb j) % m))))⟩), (0, ⟨0, .val (.int .i64 m)⟩), (1, ⟨0, .val (.sl false 2 (intL la))⟩), (2, ⟨0, .val (.sl false 2 (intL lb))⟩)]) (fun w => w.1 ≤ d + 1) (fun w => d + 1 - w.1) (0, 1) (Nat.zero_le _) (fun i => rfl) ?_ (fun w hw => ?_)
  · simp [Sub, lk, tab_nil, intL]
  · obtain ⟨i, v⟩ := w
    simp only at hw ⊢
    by_cases hlt : i < d + 1
    · have hx := at_bound ha hm i
      have hy := at_bound hb hm i
      have hs := tab_succ i (fun j => (at' la j + at' lb j) % m)
      (repeat (first | ((with_reducible refine rgn_cons rfl (fun K hK => ?_)); simp only [go_sem, seval, ↓reduceIte, decide_true, decide_false, hla, hlb, show (i : Int) < ((d + 1 : Nat) : Int) by omega, decide_true, intL_getD la i (by omega), intL_getD lb i (by omega), show la.getD i 0 = at' la i from rfl, show lb.getD i 0 = at' lb i from rfl, Int.toNat_natCast, Int.natCast_nonneg, wid (at' la i + at' lb i) (by omega) (by omega), tm (at' la i + at' lb i) m (by omega), show m ≠ 0 by omega, tab_length, intL_snoc, hs, show i + 1 ≤ 1099511627776 by omega, show (i + 1) * 8 ≤ 140737488355328 by omega, wid ((i : Int) + 1) (by omega) (by omega)]; (refine hK _ _ _ (by simp only [go_sem, Nat.reduceEqDiff, ↓reduceIte]; rfl) ?_); clear hK; clear K) | (with_reducible first | refine rgn_nil (by first | trivial | kernel_rfl) ?_ | refine AWP.seq ?_ | refine tX hC hP (by kernel_rfl) ?_ | refine aX hC hM hP (by kernel_rfl) ?_ | refine AWP.skip ?_ | refine AWP.label ?_ | refine AWP.exit ?_ | refine AWP.block ?_ | refine cTa ?_ | refine cFa ?_) | simp only [qS, Nat.reduceEqDiff, ↓reduceIte]))
      exact ⟨(i + 1, v + 1), by simp only; omega, by simp only; omega, by simp [Sub, lk]⟩
    · (repeat (first | ((with_reducible refine rgn_cons rfl (fun K hK => ?_)); simp only [go_sem, seval, ↓reduceIte, decide_true, decide_false, hla, show ¬ (i : Int) < ((d + 1 : Nat) : Int) by omega, decide_false]; (refine hK _ _ _ (by simp only [go_sem, Nat.reduceEqDiff, ↓reduceIte]; rfl) ?_); clear hK; clear K) | (with_reducible first | refine rgn_nil (by first | trivial | kernel_rfl) ?_ | refine AWP.seq ?_ | refine tX hC hP (by kernel_rfl) ?_ | refine aX hC hM hP (by kernel_rfl) ?_ | refine AWP.skip ?_ | refine AWP.label ?_ | refine AWP.exit ?_ | refine AWP.block ?_ | refine cTa ?_ | refine cFa ?_) | simp only [qS, Nat.reduceEqDiff, ↓reduceIte]))
      (refine AWP.ret ?_; refine retOk1 (by simp only [go_sem, seval, ↓reduceIte, decide_true, decide_false]; rfl) ?_)
      rw [show i = d + 1 by omega]; rfl
set_option maxHeartbeats 1000000 in
theorem c_spec_l02Scale (m c : Int) (l : List Int) (d : Nat) (hm : 0 < m) (hm2 : m ≤ 10000) (ha : ∀ x ∈ l, 0 ≤ x ∧ x < m) (hl : l.length = d + 1) (hd : d ≤ 1000000) (hc : 0 ≤ c) (hc2 : c < m) : AFn Tryz.prog 181 [.int .i64 m, .int .i64 c, .sl false 2 (intL l)] (.sl true 2 (intL (scL m c l d))) := by
  refine AFn.of' ttOk (by decide) Tryz.func181 Tryz.ntmps181 (by rw [Tryz.results181]) (by rfl) (by rfl) (by simp) (by decide) (by simp only [go_sem, Nat.reduceAdd, ↓reduceIte]; rfl) mixed (fun C hP hM hC => ?_)
  (repeat (first | ((with_reducible refine rgn_cons rfl (fun K hK => ?_)); simp only [go_sem, seval, ↓reduceIte, decide_true, decide_false]; (refine hK _ _ _ (by simp only [go_sem, Nat.reduceEqDiff, ↓reduceIte]; rfl) ?_); clear hK; clear K) | (with_reducible first | refine rgn_nil (by first | trivial | kernel_rfl) ?_ | refine AWP.seq ?_ | refine tX hC hP (by kernel_rfl) ?_ | refine aX hC hM hP (by kernel_rfl) ?_ | refine AWP.skip ?_ | refine AWP.label ?_ | refine AWP.exit ?_ | refine AWP.block ?_ | refine cTa ?_ | refine cFa ?_) | simp only [qS, Nat.reduceEqDiff, ↓reduceIte]))
  refine AWP.loop (fun w : Nat × Nat => [(8, ⟨0, .val (.int .i64 w.1)⟩), (7, ⟨w.2, .own (.sl true 2 (intL (tab w.1 (fun j => c * at' l j % m))))⟩), (0, ⟨0, .val (.int .i64 m)⟩), (1, ⟨0, .val (.int .i64 c)⟩), (2, ⟨0, .val (.sl false 2 (intL l))⟩)]) (fun w => w.1 ≤ d + 1) (fun w => d + 1 - w.1) (0, 1) (Nat.zero_le _) (fun i => rfl) ?_ (fun w hw => ?_)
  · simp [Sub, lk, tab_nil, intL]
  · obtain ⟨i, v⟩ := w
    simp only at hw ⊢
    by_cases hlt : i < d + 1
    · have hx := at_bound ha hm i
      have hxy := mul_bound4 hc hc2 hx.1 hx.2 hm2
      have hs := tab_succ i (fun j => c * at' l j % m)
      (repeat (first | ((with_reducible refine rgn_cons rfl (fun K hK => ?_)); simp only [go_sem, seval, ↓reduceIte, decide_true, decide_false, hl, show (i : Int) < ((d + 1 : Nat) : Int) by omega, decide_true, intL_getD l i (by omega), show l.getD i 0 = at' l i from rfl, Int.toNat_natCast, Int.natCast_nonneg, wid (c * at' l i) (by omega) (by omega), tm (c * at' l i) m hxy.1, show m ≠ 0 by omega, tab_length, intL_snoc, hs, show i + 1 ≤ 1099511627776 by omega, show (i + 1) * 8 ≤ 140737488355328 by omega, wid ((i : Int) + 1) (by omega) (by omega)]; (refine hK _ _ _ (by simp only [go_sem, Nat.reduceEqDiff, ↓reduceIte]; rfl) ?_); clear hK; clear K) | (with_reducible first | refine rgn_nil (by first | trivial | kernel_rfl) ?_ | refine AWP.seq ?_ | refine tX hC hP (by kernel_rfl) ?_ | refine aX hC hM hP (by kernel_rfl) ?_ | refine AWP.skip ?_ | refine AWP.label ?_ | refine AWP.exit ?_ | refine AWP.block ?_ | refine cTa ?_ | refine cFa ?_) | simp only [qS, Nat.reduceEqDiff, ↓reduceIte]))
      exact ⟨(i + 1, v + 1), by simp only; omega, by simp only; omega, by simp [Sub, lk]⟩
    · (repeat (first | ((with_reducible refine rgn_cons rfl (fun K hK => ?_)); simp only [go_sem, seval, ↓reduceIte, decide_true, decide_false, hl, show ¬ (i : Int) < ((d + 1 : Nat) : Int) by omega, decide_false]; (refine hK _ _ _ (by simp only [go_sem, Nat.reduceEqDiff, ↓reduceIte]; rfl) ?_); clear hK; clear K) | (with_reducible first | refine rgn_nil (by first | trivial | kernel_rfl) ?_ | refine AWP.seq ?_ | refine tX hC hP (by kernel_rfl) ?_ | refine aX hC hM hP (by kernel_rfl) ?_ | refine AWP.skip ?_ | refine AWP.label ?_ | refine AWP.exit ?_ | refine AWP.block ?_ | refine cTa ?_ | refine cFa ?_) | simp only [qS, Nat.reduceEqDiff, ↓reduceIte]))
      (refine AWP.ret ?_; refine retOk1 (by simp only [go_sem, seval, ↓reduceIte, decide_true, decide_false]; rfl) ?_)
      rw [show i = d + 1 by omega]; rfl
end Go.Proofs.YtapdekacpecgiaaGreat
