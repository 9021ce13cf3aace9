/-
  Sums, multiples and compositions of series.
-/
import Derived.Test.YtahnnangdepkbaaLd
import Derived.Test.YtahnnangdepkbaaLd
import Derived.Test.YtahnnangdepkbaaKb
namespace Go.Proofs.Ytahnnangdepkbaa
open Go.RowKit
set_option linter.unusedSimpArgs false
set_option linter.unusedVariables false
set_option linter.unusedSectionVars false
set_option maxRecDepth 20000
-- Sums, multiples and compositions of series.
theorem upto_set {n i : Nat} {f : Nat → Int} : (tab n (fun j => if j < i then f j else 0)).set i (f i) = tab n (fun j => if j < i + 1 then f j else 0) := tab_set' fun j _ => by
  by_cases e : j = i
  · subst e; simp
  · rw [if_neg e]
    by_cases h : j < i
    · rw [if_pos h, if_pos (by omega)]
    · rw [if_neg h, if_neg (by omega)]
theorem upto_end {n i : Nat} {f : Nat → Int} (h : n ≤ i) : tab n (fun j => if j < i then f j else 0) = tab n f := tab_congr fun j hj => by rw [if_pos (by omega)]
set_option maxHeartbeats 1000000 in
theorem c_impl_Series_plus (m : Int) (la lb : List Int) (d : Nat) (hm : 0 < m) (hm2 : m ≤ 10000) (ha : ∀ x ∈ la, 0 ≤ x ∧ x < m) (hb : ∀ x ∈ lb, 0 ≤ x ∧ x < m) (hla : la.length = d + 1) (hlb : lb.length = d + 1) (hd : d ≤ 1000000) : AFn Try.prog 56 [.agg [.int .i64 m, .sl false 2 (intL la)], .agg [.int .i64 m, .sl false 2 (intL lb)]] (.agg [.int .i64 m, .sl true 2 (intL (tab (d + 1) (fun j => (at' la j + at' lb j) % m)))]) := by
  refine AFn.of' ttOk (by decide) Try.func56 Try.ntmps56 (by rw [Try.results56]) (by rfl) (by rfl) (by simp) (by decide) (by simp only [go_sem, Nat.reduceAdd, ↓reduceIte]; rfl) mixed (fun C hP hM hC => ?_)
  have hm0 : m ≠ 0 := by omega
  (repeat (first | ((with_reducible refine rgn_cons rfl (fun K hK => ?_)); simp only [go_sem, seval, ↓reduceIte, decide_true, decide_false]; (first | refine hK _ _ _ (by simp only [go_sem, Nat.reduceEqDiff, ↓reduceIte]; rfl) ?_ | refine ⟨_, c_impl_Series_degree m la (by omega), hK _ _ _ (by simp only [go_sem, Nat.reduceEqDiff, ↓reduceIte]; rfl) ?_⟩ | refine ⟨_, c_impl_zero m ((la.length : Int) - 1) (d + 1) (by omega) (by omega), hK _ _ _ (by simp only [go_sem, Nat.reduceEqDiff, ↓reduceIte]; rfl) ?_⟩); clear hK; clear K) | (with_reducible first | refine rgn_nil (by first | trivial | kernel_rfl) ?_ | refine AWP.seq ?_ | refine tX hC hP (by kernel_rfl) ?_ | refine aX hC hM hP (by kernel_rfl) ?_ | refine AWP.skip ?_ | refine AWP.label ?_ | refine AWP.exit ?_ | refine AWP.block ?_ | refine cTa ?_ | refine cFa ?_) | simp only [qS, Nat.reduceEqDiff, ↓reduceIte]))
  refine AWP.loop (fun i : Nat => [(15, ⟨0, .val (.int .i64 i)⟩), (14, ⟨0, .val (.int .i64 (d + 1 : Nat))⟩), (5, ⟨2, .own (.box 36 (.agg [.int .i64 m, .sl true 2 (intL (tab (d + 1) (fun j => if j < i then (at' la j + at' lb j) % m else 0)))]))⟩), (2, ⟨1, .own (.box 36 (.agg [.int .i64 m, .sl false 2 (intL la)]))⟩), (3, ⟨1, .own (.box 36 (.agg [.int .i64 m, .sl false 2 (intL lb)]))⟩), (4, ⟨1, .own (.box 36 (.agg [.int .i64 0, .nil]))⟩)]) (fun i => i ≤ d + 1) (fun i => d + 1 - i) 0 (Nat.zero_le _) (fun i => rfl) ?_ (fun i hi => ?_)
  · simp [Sub, lk, tab_length]
  · by_cases hlt : i < d + 1
    · have hI : (i : Int) < ((d + 1 : Nat) : Int) := by omega
      have hx := at_bound ha hm i
      have hy := at_bound hb hm i
      have hlen : i < (tab (d + 1) (fun j => if j < i then (at' la j + at' lb j) % m else 0)).length := by rw [tab_length]; exact hlt
      (repeat (first | ((with_reducible refine rgn_cons rfl (fun K hK => ?_)); simp only [go_sem, seval, ↓reduceIte, decide_true, decide_false, hI, decide_true, hm0, hla, hlb, intL_getD la i (by omega), intL_getD lb i (by omega), show la.getD i 0 = at' la i from rfl, show lb.getD i 0 = at' lb i from rfl, Int.toNat_natCast, Int.natCast_nonneg, tab_length, wid (at' la i + at' lb i) (by omega) (by omega), tm (at' la i + at' lb i) m (by omega), intL_get _ _ hlen, sizeL_take _ _ (Nat.le_of_lt hlen), Nat.mul_one, intL_modify, upto_set (f := fun j => (at' la j + at' lb j) % m), wid ((i : Int) + 1) (by omega) (by omega)]; (refine hK _ _ _ (by simp only [go_sem, Nat.reduceEqDiff, ↓reduceIte]; rfl) ?_); clear hK; clear K) | (with_reducible first | refine rgn_nil (by first | trivial | kernel_rfl) ?_ | refine AWP.seq ?_ | refine tX hC hP (by kernel_rfl) ?_ | refine aX hC hM hP (by kernel_rfl) ?_ | refine AWP.skip ?_ | refine AWP.label ?_ | refine AWP.exit ?_ | refine AWP.block ?_ | refine cTa ?_ | refine cFa ?_) | simp only [qS, Nat.reduceEqDiff, ↓reduceIte]))
      exact ⟨i + 1, by omega, by omega, by simp [Sub, lk]⟩
    · (repeat (first | ((with_reducible refine rgn_cons rfl (fun K hK => ?_)); simp only [go_sem, seval, ↓reduceIte, decide_true, decide_false, show ¬ (i : Int) < ((d + 1 : Nat) : Int) by omega, decide_false]; (refine hK _ _ _ (by simp only [go_sem, Nat.reduceEqDiff, ↓reduceIte]; rfl) ?_); clear hK; clear K) | (with_reducible first | refine rgn_nil (by first | trivial | kernel_rfl) ?_ | refine AWP.seq ?_ | refine tX hC hP (by kernel_rfl) ?_ | refine aX hC hM hP (by kernel_rfl) ?_ | refine AWP.skip ?_ | refine AWP.label ?_ | refine AWP.exit ?_ | refine AWP.block ?_ | refine cTa ?_ | refine cFa ?_) | simp only [qS, Nat.reduceEqDiff, ↓reduceIte]))
      (refine AWP.ret ?_; refine retOk1 (by simp only [go_sem, seval, ↓reduceIte, decide_true, decide_false]; rfl) ?_)
      rw [upto_end (f := fun j => (at' la j + at' lb j) % m) (by omega)]
def addL (m : Int) (a b : List Int) (d : Nat) : List Int := tab (d + 1) (fun j => (at' a j + at' b j) % m)
def scL (m c : Int) (a : List Int) (d : Nat) : List Int := tab (d + 1) (fun j => c * at' a j % m)
theorem addL_num {m : Int} (hm : 0 < m) (a b : List Int) (d : Nat) : (addL m a b d).length = d + 1 ∧ ∀ x ∈ addL m a b d, 0 ≤ x ∧ x < m :=
  ⟨tab_length _ _, fun x hx => by obtain ⟨i, _, rfl⟩ := mem_tab.1 hx; exact emod_b _ m hm⟩
theorem scL_num {m : Int} (hm : 0 < m) (c : Int) (a : List Int) (d : Nat) : (scL m c a d).length = d + 1 ∧ ∀ x ∈ scL m c a d, 0 ≤ x ∧ x < m :=
  ⟨tab_length _ _, fun x hx => by obtain ⟨i, _, rfl⟩ := mem_tab.1 hx; exact emod_b _ m hm⟩
set_option maxHeartbeats 1000000 in
theorem c_impl_Series_scaled (m c : Int) (l : List Int) (d : Nat) (hm : 0 < m) (hm2 : m ≤ 10000) (ha : ∀ x ∈ l, 0 ≤ x ∧ x < m) (hl : l.length = d + 1) (hd : d ≤ 1000000) (hc : 0 ≤ c) (hc2 : c < m) : AFn Try.prog 57 [.agg [.int .i64 m, .sl false 2 (intL l)], .int .i64 c] (.agg [.int .i64 m, .sl true 2 (intL (scL m c l d))]) := by
  refine AFn.of' ttOk (by decide) Try.func57 Try.ntmps57 (by rw [Try.results57]) (by rfl) (by rfl) (by simp) (by decide) (by simp only [go_sem, Nat.reduceAdd, ↓reduceIte]; rfl) mixed (fun C hP hM hC => ?_)
  have hmc := c_impl_mod c m hm (by omega)
  rw [Int.emod_eq_of_lt hc hc2] at hmc
  (repeat (first | ((with_reducible refine rgn_cons rfl (fun K hK => ?_)); simp only [go_sem, seval, ↓reduceIte, decide_true, decide_false]; (first | refine hK _ _ _ (by simp only [go_sem, Nat.reduceEqDiff, ↓reduceIte]; rfl) ?_ | refine ⟨_, c_impl_Series_degree m l (by omega), hK _ _ _ (by simp only [go_sem, Nat.reduceEqDiff, ↓reduceIte]; rfl) ?_⟩ | refine ⟨_, c_impl_zero m ((l.length : Int) - 1) (d + 1) (by omega) (by omega), hK _ _ _ (by simp only [go_sem, Nat.reduceEqDiff, ↓reduceIte]; rfl) ?_⟩); clear hK; clear K) | (with_reducible first | refine rgn_nil (by first | trivial | kernel_rfl) ?_ | refine AWP.seq ?_ | refine tX hC hP (by kernel_rfl) ?_ | refine aX hC hM hP (by kernel_rfl) ?_ | refine AWP.skip ?_ | refine AWP.label ?_ | refine AWP.exit ?_ | refine AWP.block ?_ | refine cTa ?_ | refine cFa ?_) | simp only [qS, Nat.reduceEqDiff, ↓reduceIte]))
  refine AWP.loop (fun i : Nat => [(16, ⟨0, .val (.int .i64 i)⟩), (15, ⟨0, .val (.int .i64 (d + 1 : Nat))⟩), (14, ⟨0, .val (.sl false 2 (intL l))⟩), (5, ⟨2, .own (.box 36 (.agg [.int .i64 m, .sl true 2 (intL (tab (d + 1) (fun j => if j < i then c * at' l j % m else 0)))]))⟩), (2, ⟨1, .own (.box 36 (.agg [.int .i64 m, .sl false 2 (intL l)]))⟩), (1, ⟨0, .val (.int .i64 c)⟩), (4, ⟨1, .own (.box 36 (.agg [.int .i64 0, .nil]))⟩)]) (fun i => i ≤ d + 1) (fun i => d + 1 - i) 0 (Nat.zero_le _) (fun i => rfl) ?_ (fun i hi => ?_)
  · simp [Sub, lk, hl]
  · by_cases hlt : i < d + 1
    · have hx := at_bound ha hm i
      have hlen : i < (tab (d + 1) (fun j => if j < i then c * at' l j % m else 0)).length := by rw [tab_length]; exact hlt
      (repeat (first | ((with_reducible refine rgn_cons rfl (fun K hK => ?_)); simp only [go_sem, seval, ↓reduceIte, decide_true, decide_false, show (i : Int) < ((d + 1 : Nat) : Int) by omega, decide_true, hl, intL_getD l i (by omega), show l.getD i 0 = at' l i from rfl, Int.toNat_natCast, Int.natCast_nonneg, tab_length, intL_get _ _ hlen, sizeL_take _ _ (Nat.le_of_lt hlen), Nat.mul_one, intL_modify, upto_set (f := fun j => c * at' l j % m), wid ((i : Int) + 1) (by omega) (by omega)]; (first | refine hK _ _ _ (by simp only [go_sem, Nat.reduceEqDiff, ↓reduceIte]; rfl) ?_ | refine ⟨_, hmc, hK _ _ _ (by simp only [go_sem, Nat.reduceEqDiff, ↓reduceIte]; rfl) ?_⟩ | refine ⟨_, c_impl_mul m c (at' l i) hm (by omega) hc hc2 hx.1 hx.2, hK _ _ _ (by simp only [go_sem, Nat.reduceEqDiff, ↓reduceIte]; rfl) ?_⟩); clear hK; clear K) | (with_reducible first | refine rgn_nil (by first | trivial | kernel_rfl) ?_ | refine AWP.seq ?_ | refine tX hC hP (by kernel_rfl) ?_ | refine aX hC hM hP (by kernel_rfl) ?_ | refine AWP.skip ?_ | refine AWP.label ?_ | refine AWP.exit ?_ | refine AWP.block ?_ | refine cTa ?_ | refine cFa ?_) | simp only [qS, Nat.reduceEqDiff, ↓reduceIte]))
      exact ⟨i + 1, by omega, by omega, by simp [Sub, lk]⟩
    · (repeat (first | ((with_reducible refine rgn_cons rfl (fun K hK => ?_)); simp only [go_sem, seval, ↓reduceIte, decide_true, decide_false, show ¬ (i : Int) < ((d + 1 : Nat) : Int) by omega, decide_false]; (refine hK _ _ _ (by simp only [go_sem, Nat.reduceEqDiff, ↓reduceIte]; rfl) ?_); clear hK; clear K) | (with_reducible first | refine rgn_nil (by first | trivial | kernel_rfl) ?_ | refine AWP.seq ?_ | refine tX hC hP (by kernel_rfl) ?_ | refine aX hC hM hP (by kernel_rfl) ?_ | refine AWP.skip ?_ | refine AWP.label ?_ | refine AWP.exit ?_ | refine AWP.block ?_ | refine cTa ?_ | refine cFa ?_) | simp only [qS, Nat.reduceEqDiff, ↓reduceIte]))
      (refine AWP.ret ?_; refine retOk1 (by simp only [go_sem, seval, ↓reduceIte, decide_true, decide_false]; rfl) ?_)
      rw [upto_end (f := fun j => c * at' l j % m) (by omega)]; rfl
end Go.Proofs.Ytahnnangdepkbaa
