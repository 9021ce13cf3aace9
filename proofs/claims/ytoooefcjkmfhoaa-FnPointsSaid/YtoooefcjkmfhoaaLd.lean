/-
  Codes; series of powers.
-/
import Derived.Test.YtoooefcjkmfhoaaLc
import Derived.Test.YtoooefcjkmfhoaaPa
namespace Go.Proofs.Ytoooefcjkmfhoaa
open Go.RowKit
set_option linter.unusedSimpArgs false
set_option linter.unusedVariables false
set_option linter.unusedSectionVars false
set_option maxRecDepth 20000
-- Codes; series of powers.
def codeN (m : Int) (l : List Int) : Int := if (decide (2 ≤ m) && decide (m ≤ 10000)) = true then (if l.all (isNum m) then 0 else 2) else 1
theorem codeN_zero {m : Int} {l : List Int} (h : codeN m l = 0) : 2 ≤ m ∧ m ≤ 10000 ∧ ∀ x ∈ l, 0 ≤ x ∧ x < m := by
  unfold codeN at h
  split at h
  · rename_i hm
    simp only [Bool.and_eq_true, decide_eq_true_eq] at hm
    split at h
    · rename_i hs
      rw [List.all_eq_true] at hs
      refine ⟨hm.1, hm.2, fun x hx => ?_⟩
      have := hs x hx
      simp only [isNum, Bool.and_eq_true, decide_eq_true_eq] at this
      omega
    · cases h
  · cases h
set_option maxHeartbeats 1000000 in
theorem c_impl_mod (n m : Int) (h : 0 < m) (h2 : m ≤ 4611686018427387904) : AFn Try.prog 72 [.int .i64 n, .int .i64 m] (.int .i64 (n % m)) := by
  refine AFn.of' ttOk (by decide) Try.func72 Try.ntmps72 (by rw [Try.results72]) (by rfl) (by rfl) (by simp) (by decide) (by simp only [go_sem, Nat.reduceAdd, ↓reduceIte]; rfl) mixed (fun C hP hM hC => ?_)
  have h1 := Int.neg_lt_tmod_of_pos' n h
  (repeat (first | ((with_reducible refine rgn_cons rfl (fun K hK => ?_)); simp only [go_sem, seval, ↓reduceIte, decide_true, decide_false, show m ≠ 0 by omega, wid (n.tmod m + m) (by omega) (by omega), go_mod n m h]; (refine hK _ _ _ (by simp only [go_sem, Nat.reduceEqDiff, ↓reduceIte]; rfl) ?_); clear hK; clear K) | (with_reducible first | refine rgn_nil (by first | trivial | kernel_rfl) ?_ | refine AWP.seq ?_ | refine tX hC hP (by kernel_rfl) ?_ | refine aX hC hM hP (by kernel_rfl) ?_ | refine AWP.skip ?_ | refine AWP.label ?_ | refine AWP.exit ?_ | refine AWP.block ?_ | refine cTa ?_ | refine cFa ?_) | simp only [qS, Nat.reduceEqDiff, ↓reduceIte]))
  (refine AWP.ret ?_; refine retOk1 (by simp only [go_sem, seval, ↓reduceIte, decide_true, decide_false]; rfl) ?_)
  rfl
-- Series of powers.
-- Products of series.
set_option maxHeartbeats 1000000 in
theorem c_impl_mul (m x y : Int) (hm : 0 < m) (hm2 : m ≤ 3000000000) (hx : 0 ≤ x) (hx2 : x < m) (hy : 0 ≤ y) (hy2 : y < m) : AFn Try.prog 71 [.int .i64 m, .int .i64 x, .int .i64 y] (.int .i64 (x * y % m)) := by
  refine AFn.of' ttOk (by decide) Try.func71 Try.ntmps71 (by rw [Try.results71]) (by rfl) (by rfl) (by simp) (by decide) (by simp only [go_sem, Nat.reduceAdd, ↓reduceIte]; rfl) mixed (fun C hP hM hC => ?_)
  have hb := mul_bound hx hx2 hy hy2 hm2
  (repeat (first | ((with_reducible refine rgn_cons rfl (fun K hK => ?_)); simp only [go_sem, seval, ↓reduceIte, decide_true, decide_false, hm2, wid (x * y) (by omega) (by omega), tm _ m hb.1, show m ≠ 0 by omega]; (refine hK _ _ _ (by simp only [go_sem, Nat.reduceEqDiff, ↓reduceIte]; rfl) ?_); clear hK; clear K) | (with_reducible first | refine rgn_nil (by first | trivial | kernel_rfl) ?_ | refine AWP.seq ?_ | refine tX hC hP (by kernel_rfl) ?_ | refine aX hC hM hP (by kernel_rfl) ?_ | refine AWP.skip ?_ | refine AWP.label ?_ | refine AWP.exit ?_ | refine AWP.block ?_ | refine cTa ?_ | refine cFa ?_) | simp only [qS, Nat.reduceEqDiff, ↓reduceIte]))
  (refine AWP.ret ?_; refine retOk1 (by simp only [go_sem, seval, ↓reduceIte, decide_true, decide_false]; rfl) ?_)
  rfl
set_option maxHeartbeats 1000000 in
theorem c_spec_l02Times (m : Int) (la lb : List Int) (d : Nat) (hm : 0 < m) (hm2 : m ≤ 10000) (ha : ∀ x ∈ la, 0 ≤ x ∧ x < m) (hb : ∀ x ∈ lb, 0 ≤ x ∧ x < m) (hla : la.length ≤ 1000000) (hlb : lb.length ≤ 1000000) (hd : d ≤ 1000000) : AFn Try.prog 82 [.int .i64 m, .sl false 2 (intL la), .sl false 2 (intL lb), .int .i64 d] (.sl true 2 (intL (timesL m la lb d))) := by
  refine AFn.of' ttOk (by decide) Try.func82 Try.ntmps82 (by rw [Try.results82]) (by rfl) (by rfl) (by simp) (by decide) (by simp only [go_sem, Nat.reduceAdd, ↓reduceIte]; rfl) mixed (fun C hP hM hC => ?_)
  have hm0 : m ≠ 0 := by omega
  (repeat (first | ((with_reducible refine rgn_cons rfl (fun K hK => ?_)); simp only [go_sem, seval, ↓reduceIte, decide_true, decide_false, wid ((d : Int) + 1) (by omega) (by omega), show (0 : Int) ≤ (d : Int) + 1 by omega, show ((d : Int) + 1).toNat = d + 1 by omega, show (d : Int) + 1 ≤ 1099511627776 by omega, intL_replicate, tab_zero]; (refine hK _ _ _ (by simp only [go_sem, Nat.reduceEqDiff, ↓reduceIte]; rfl) ?_); clear hK; clear K) | (with_reducible first | refine rgn_nil (by first | trivial | kernel_rfl) ?_ | refine AWP.seq ?_ | refine tX hC hP (by kernel_rfl) ?_ | refine aX hC hM hP (by kernel_rfl) ?_ | refine AWP.skip ?_ | refine AWP.label ?_ | refine AWP.exit ?_ | refine AWP.block ?_ | refine cTa ?_ | refine cFa ?_) | simp only [qS, Nat.reduceEqDiff, ↓reduceIte]))
  refine AWP.loop (fun i : Nat => [(10, ⟨0, .val (.int .i64 i)⟩), (9, ⟨1, .own (.sl true 2 (intL (tab (d + 1) (pr (at' la) (at' lb) m i))))⟩), (0, ⟨0, .val (.int .i64 m)⟩), (1, ⟨0, .val (.sl false 2 (intL la))⟩), (2, ⟨0, .val (.sl false 2 (intL lb))⟩), (3, ⟨0, .val (.int .i64 d)⟩)]) (fun i => i ≤ d + 1 ∧ i ≤ la.length) (fun i => d + 1 - i) 0 ⟨Nat.zero_le _, Nat.zero_le _⟩ (fun i => rfl) ?_ (fun i hi => ?_)
  · have e : tab (d + 1) (pr (at' la) (at' lb) m 0) = tab (d + 1) (fun _ => 0) := tab_congr fun j _ => pr_zero _ _ _ _
    simp [Sub, lk, e]
  · by_cases hc : i < la.length ∧ i ≤ d
    · have hI1 : ((i : Int) < (la.length : Int)) := by omega
      have hI2 : ((i : Int) ≤ (d : Int)) := by omega
      (repeat (first | ((with_reducible refine rgn_cons rfl (fun K hK => ?_)); simp only [go_sem, seval, ↓reduceIte, decide_true, decide_false, hI1, hI2]; (refine hK _ _ _ (by simp only [go_sem, Nat.reduceEqDiff, ↓reduceIte]; rfl) ?_); clear hK; clear K) | (with_reducible first | refine rgn_nil (by first | trivial | kernel_rfl) ?_ | refine AWP.seq ?_ | refine tX hC hP (by kernel_rfl) ?_ | refine aX hC hM hP (by kernel_rfl) ?_ | refine AWP.skip ?_ | refine AWP.label ?_ | refine AWP.exit ?_ | refine AWP.block ?_ | refine cTa ?_ | refine cFa ?_) | simp only [qS, Nat.reduceEqDiff, ↓reduceIte]))
      have e0 : tab (d + 1) (pr (at' la) (at' lb) m i) = tab (d + 1) (row (at' la) (at' lb) m i 0) := tab_congr fun j _ => (row_zero _ _ _ _ _).symm
      refine AWP.loop (fun k : Nat => [(11, ⟨0, .val (.int .i64 k)⟩), (10, ⟨0, .val (.int .i64 i)⟩), (9, ⟨1, .own (.sl true 2 (intL (tab (d + 1) (row (at' la) (at' lb) m i k))))⟩), (0, ⟨0, .val (.int .i64 m)⟩), (1, ⟨0, .val (.sl false 2 (intL la))⟩), (2, ⟨0, .val (.sl false 2 (intL lb))⟩), (3, ⟨0, .val (.int .i64 d)⟩)]) (fun k => k ≤ lb.length) (fun k => lb.length - k) 0 (Nat.zero_le _) (fun i => rfl) ?_ (fun k hk => ?_)
      · simp [Sub, lk, ← e0]
      · by_cases hk2 : k < lb.length ∧ i + k ≤ d ∧ at' la i ≠ 0
        · have hK1 : ((k : Int) < (lb.length : Int)) := by omega
          have hK2 : ((i : Int) + (k : Int) ≤ (d : Int)) := by omega
          have hK3 : (at' la i != 0) = true := by simpa using hk2.2.2
          have hx := at_bound ha hm i
          have hy := at_bound hb hm k
          have hxy := mul_bound4 hx.1 hx.2 hy.1 hy.2 hm2
          have hp := pr_bound (at' la) (at' lb) hm i (i + k)
          have hlen : i + k < (tab (d + 1) (row (at' la) (at' lb) m i k)).length := by rw [tab_length]; omega
          have g1 : (tab (d + 1) (row (at' la) (at' lb) m i k)).getD (i + k) 0 = pr (at' la) (at' lb) m i (i + k) := by rw [tab_getD (by omega), row_at]
          (repeat (first | ((with_reducible refine rgn_cons rfl (fun K hK => ?_)); simp only [go_sem, seval, ↓reduceIte, decide_true, decide_false, hK1, hK2, hK3, wid ((i : Int) + k) (by omega) (by omega), intL_getD la i hc.1, intL_getD lb k hk2.1, intL_getD _ _ hlen, g1, show la.getD i 0 = at' la i from rfl, show lb.getD k 0 = at' lb k from rfl, Int.toNat_natCast, Int.natCast_nonneg, hI1, show ((i : Int) + k).toNat = i + k by omega, show (0 : Int) ≤ (i : Int) + k by omega, tab_length, show (i : Int) + k < ((d + 1 : Nat) : Int) by omega, wid (at' la i * at' lb k) (by omega) (by omega), wid (pr (at' la) (at' lb) m i (i + k) + at' la i * at' lb k) (by omega) (by omega), tm (pr (at' la) (at' lb) m i (i + k) + at' la i * at' lb k) m (by omega), pr_succ, hm0, Nat.mul_one, intL_get _ _ hlen, sizeL_take _ _ (Nat.le_of_lt hlen), intL_modify, tab_set' (fun n _ => row_set (at' la) (at' lb) m i k n), wid ((k : Int) + 1) (by omega) (by omega)]; (refine hK _ _ _ (by simp only [go_sem, Nat.reduceEqDiff, ↓reduceIte]; rfl) ?_); clear hK; clear K) | (with_reducible first | refine rgn_nil (by first | trivial | kernel_rfl) ?_ | refine AWP.seq ?_ | refine tX hC hP (by kernel_rfl) ?_ | refine aX hC hM hP (by kernel_rfl) ?_ | refine AWP.skip ?_ | refine AWP.label ?_ | refine AWP.exit ?_ | refine AWP.block ?_ | refine cTa ?_ | refine cFa ?_) | simp only [qS, Nat.reduceEqDiff, ↓reduceIte]))
          exact ⟨k + 1, by omega, by omega, by simp [Sub, lk]⟩
        · have hE : tab (d + 1) (row (at' la) (at' lb) m i k) = tab (d + 1) (pr (at' la) (at' lb) m (i + 1)) := tab_congr fun n hn => row_end fun hn2 => by
            by_cases h1 : k < lb.length
            · have h2 : at' la i = 0 := Classical.byContradiction fun h2 => hk2 ⟨h1, by omega, h2⟩
              rw [h2, Int.zero_mul]
            · rw [at_out (l := lb) (i := n - i) (by omega), Int.mul_zero]
          by_cases h1 : k < lb.length
          · have hK1 : ((k : Int) < (lb.length : Int)) := by omega
            by_cases h2 : i + k ≤ d
            · have hK2 : ((i : Int) + (k : Int) ≤ (d : Int)) := by omega
              have hK3 : (at' la i != 0) = false := by simpa using fun h3 => hk2 ⟨h1, h2, h3⟩
              (repeat (first | ((with_reducible refine rgn_cons rfl (fun K hK => ?_)); simp only [go_sem, seval, ↓reduceIte, decide_true, decide_false, hK1, hK2, hK3, wid ((i : Int) + k) (by omega) (by omega), intL_getD la i hc.1, show la.getD i 0 = at' la i from rfl, Int.toNat_natCast, Int.natCast_nonneg, hI1, wid ((i : Int) + 1) (by omega) (by omega)]; (refine hK _ _ _ (by simp only [go_sem, Nat.reduceEqDiff, ↓reduceIte]; rfl) ?_); clear hK; clear K) | (with_reducible first | refine rgn_nil (by first | trivial | kernel_rfl) ?_ | refine AWP.seq ?_ | refine tX hC hP (by kernel_rfl) ?_ | refine aX hC hM hP (by kernel_rfl) ?_ | refine AWP.skip ?_ | refine AWP.label ?_ | refine AWP.exit ?_ | refine AWP.block ?_ | refine cTa ?_ | refine cFa ?_) | simp only [qS, Nat.reduceEqDiff, ↓reduceIte]))
              exact ⟨i + 1, by omega, by omega, by simp [Sub, lk, hE]⟩
            · have hK2 : ¬ ((i : Int) + (k : Int) ≤ (d : Int)) := by omega
              (repeat (first | ((with_reducible refine rgn_cons rfl (fun K hK => ?_)); simp only [go_sem, seval, ↓reduceIte, decide_true, decide_false, hK1, hK2, decide_false, wid ((i : Int) + k) (by omega) (by omega), wid ((i : Int) + 1) (by omega) (by omega)]; (refine hK _ _ _ (by simp only [go_sem, Nat.reduceEqDiff, ↓reduceIte]; rfl) ?_); clear hK; clear K) | (with_reducible first | refine rgn_nil (by first | trivial | kernel_rfl) ?_ | refine AWP.seq ?_ | refine tX hC hP (by kernel_rfl) ?_ | refine aX hC hM hP (by kernel_rfl) ?_ | refine AWP.skip ?_ | refine AWP.label ?_ | refine AWP.exit ?_ | refine AWP.block ?_ | refine cTa ?_ | refine cFa ?_) | simp only [qS, Nat.reduceEqDiff, ↓reduceIte]))
              exact ⟨i + 1, by omega, by omega, by simp [Sub, lk, hE]⟩
          · have hK1 : ¬ ((k : Int) < (lb.length : Int)) := by omega
            (repeat (first | ((with_reducible refine rgn_cons rfl (fun K hK => ?_)); simp only [go_sem, seval, ↓reduceIte, decide_true, decide_false, hK1, decide_false, wid ((i : Int) + 1) (by omega) (by omega)]; (refine hK _ _ _ (by simp only [go_sem, Nat.reduceEqDiff, ↓reduceIte]; rfl) ?_); clear hK; clear K) | (with_reducible first | refine rgn_nil (by first | trivial | kernel_rfl) ?_ | refine AWP.seq ?_ | refine tX hC hP (by kernel_rfl) ?_ | refine aX hC hM hP (by kernel_rfl) ?_ | refine AWP.skip ?_ | refine AWP.label ?_ | refine AWP.exit ?_ | refine AWP.block ?_ | refine cTa ?_ | refine cFa ?_) | simp only [qS, Nat.reduceEqDiff, ↓reduceIte]))
            exact ⟨i + 1, by omega, by omega, by simp [Sub, lk, hE]⟩
    · have hE : tab (d + 1) (pr (at' la) (at' lb) m i) = timesL m la lb d := tab_congr fun n hn => pr_end fun j hj hj2 => at_out (by omega)
      by_cases h1 : i < la.length
      · have hI1 : ((i : Int) < (la.length : Int)) := by omega
        have hI2 : ¬ ((i : Int) ≤ (d : Int)) := by omega
        (repeat (first | ((with_reducible refine rgn_cons rfl (fun K hK => ?_)); simp only [go_sem, seval, ↓reduceIte, decide_true, decide_false, hI1, hI2, decide_false]; (refine hK _ _ _ (by simp only [go_sem, Nat.reduceEqDiff, ↓reduceIte]; rfl) ?_); clear hK; clear K) | (with_reducible first | refine rgn_nil (by first | trivial | kernel_rfl) ?_ | refine AWP.seq ?_ | refine tX hC hP (by kernel_rfl) ?_ | refine aX hC hM hP (by kernel_rfl) ?_ | refine AWP.skip ?_ | refine AWP.label ?_ | refine AWP.exit ?_ | refine AWP.block ?_ | refine cTa ?_ | refine cFa ?_) | simp only [qS, Nat.reduceEqDiff, ↓reduceIte]))
        (refine AWP.ret ?_; refine retOk1 (by simp only [go_sem, seval, ↓reduceIte, decide_true, decide_false]; rfl) ?_)
        rw [← hE]
      · have hI1 : ¬ ((i : Int) < (la.length : Int)) := by omega
        (repeat (first | ((with_reducible refine rgn_cons rfl (fun K hK => ?_)); simp only [go_sem, seval, ↓reduceIte, decide_true, decide_false, hI1, decide_false]; (refine hK _ _ _ (by simp only [go_sem, Nat.reduceEqDiff, ↓reduceIte]; rfl) ?_); clear hK; clear K) | (with_reducible first | refine rgn_nil (by first | trivial | kernel_rfl) ?_ | refine AWP.seq ?_ | refine tX hC hP (by kernel_rfl) ?_ | refine aX hC hM hP (by kernel_rfl) ?_ | refine AWP.skip ?_ | refine AWP.label ?_ | refine AWP.exit ?_ | refine AWP.block ?_ | refine cTa ?_ | refine cFa ?_) | simp only [qS, Nat.reduceEqDiff, ↓reduceIte]))
        (refine AWP.ret ?_; refine retOk1 (by simp only [go_sem, seval, ↓reduceIte, decide_true, decide_false]; rfl) ?_)
        rw [← hE]
-- Products of series: the program's.
-- Inverses modulo a number; greatest common divisors.
set_option maxHeartbeats 1000000 in
theorem c_spec_l01Mod (m n : Int) (h : 0 < m) (h2 : m ≤ 4611686018427387904) : AFn Try.prog 65 [.int .i64 m, .int .i64 n] (.int .i64 (n % m)) := by
  refine AFn.of' ttOk (by decide) Try.func65 Try.ntmps65 (by rw [Try.results65]) (by rfl) (by rfl) (by simp) (by decide) (by simp only [go_sem, Nat.reduceAdd, ↓reduceIte]; rfl) mixed (fun C hP hM hC => ?_)
  have h1 := Int.neg_lt_tmod_of_pos' n h
  (repeat (first | ((with_reducible refine rgn_cons rfl (fun K hK => ?_)); simp only [go_sem, seval, ↓reduceIte, decide_true, decide_false, show m ≠ 0 by omega, wid (n.tmod m + m) (by omega) (by omega), go_mod n m h]; (refine hK _ _ _ (by simp only [go_sem, Nat.reduceEqDiff, ↓reduceIte]; rfl) ?_); clear hK; clear K) | (with_reducible first | refine rgn_nil (by first | trivial | kernel_rfl) ?_ | refine AWP.seq ?_ | refine tX hC hP (by kernel_rfl) ?_ | refine aX hC hM hP (by kernel_rfl) ?_ | refine AWP.skip ?_ | refine AWP.label ?_ | refine AWP.exit ?_ | refine AWP.block ?_ | refine cTa ?_ | refine cFa ?_) | simp only [qS, Nat.reduceEqDiff, ↓reduceIte]))
  (refine AWP.ret ?_; refine retOk1 (by simp only [go_sem, seval, ↓reduceIte, decide_true, decide_false]; rfl) ?_)
  rfl
set_option maxHeartbeats 1000000 in
theorem c_spec_l01Inv (m a : Int) (hm : 0 < m) (hm2 : m ≤ 1000000000) : AFn Try.prog 78 [.int .i64 m, .int .i64 a] (.int .i64 (invL m a)) := by
  refine AFn.of' ttOk (by decide) Try.func78 Try.ntmps78 (by rw [Try.results78]) (by rfl) (by rfl) (by simp) (by decide) (by simp only [go_sem, Nat.reduceAdd, ↓reduceIte]; rfl) mixed (fun C hP hM hC => ?_)
  (repeat (first | ((with_reducible refine rgn_cons rfl (fun K hK => ?_)); simp only [go_sem, seval, ↓reduceIte, decide_true, decide_false]; (first | refine hK _ _ _ (by simp only [go_sem, Nat.reduceEqDiff, ↓reduceIte]; rfl) ?_ | refine ⟨_, c_spec_l01Mod m a hm (by omega), hK _ _ _ (by simp only [go_sem, Nat.reduceEqDiff, ↓reduceIte]; rfl) ?_⟩); clear hK; clear K) | (with_reducible first | refine rgn_nil (by first | trivial | kernel_rfl) ?_ | refine AWP.seq ?_ | refine tX hC hP (by kernel_rfl) ?_ | refine aX hC hM hP (by kernel_rfl) ?_ | refine AWP.skip ?_ | refine AWP.label ?_ | refine AWP.exit ?_ | refine AWP.block ?_ | refine cTa ?_ | refine cFa ?_) | simp only [qS, Nat.reduceEqDiff, ↓reduceIte]))
  refine AWP.loop (fun w : Int × Int × Int × Int => [(5, ⟨0, .val (.int .i64 w.1)⟩), (6, ⟨0, .val (.int .i64 w.2.1)⟩), (7, ⟨0, .val (.int .i64 w.2.2.1)⟩), (8, ⟨0, .val (.int .i64 w.2.2.2)⟩), (0, ⟨0, .val (.int .i64 m)⟩)]) (fun w => EuB m w.1 w.2.1 w.2.2.1 w.2.2.2 ∧ eu w.1 w.2.1 w.2.2.1 w.2.2.2 = eu m (a % m) 0 1) (fun w => w.2.1.toNat) (m, a % m, 0, 1) ⟨EuB_start hm, rfl⟩ (fun i => rfl) ?_ (fun w hw => ?_)
  · simp [Sub, lk]
  · obtain ⟨r, s, x, y⟩ := w
    obtain ⟨hB, hE⟩ := hw
    simp only at hB hE ⊢
    by_cases hs : 0 < s
    · obtain ⟨g1, g2, g3, g4, e, g5, g6, g7, g8⟩ := EuB_facts hB hs
      have hr := hB.1
      have td : r.tdiv s = r / s := Int.tdiv_eq_ediv_of_nonneg (by omega)
      (repeat (first | ((with_reducible refine rgn_cons rfl (fun K hK => ?_)); simp only [go_sem, seval, ↓reduceIte, decide_true, decide_false, hs, show s ≠ 0 by omega, td, wid (r / s) (by omega) (by omega), wid (r / s * s) (by omega) (by omega), e, wid (r % s) (by have := emod_b r s hs; have := hB.2.2.2.1; omega) (by have := emod_b r s hs; have := hB.2.2.2.1; omega), wid (r / s * y) (by omega) (by omega), wid (x - r / s * y) (by omega) (by omega)]; (refine hK _ _ _ (by simp only [go_sem, Nat.reduceEqDiff, ↓reduceIte]; rfl) ?_); clear hK; clear K) | (with_reducible first | refine rgn_nil (by first | trivial | kernel_rfl) ?_ | refine AWP.seq ?_ | refine tX hC hP (by kernel_rfl) ?_ | refine aX hC hM hP (by kernel_rfl) ?_ | refine AWP.skip ?_ | refine AWP.label ?_ | refine AWP.exit ?_ | refine AWP.block ?_ | refine cTa ?_ | refine cFa ?_) | simp only [qS, Nat.reduceEqDiff, ↓reduceIte]))
      refine ⟨(s, r % s, y, x - r / s * y), ⟨EuB_step hB hs, by rw [← hE]; exact (eu_step hs).symm⟩, ?_, by simp [Sub, lk]⟩
      have := emod_b r s hs
      simp only
      omega
    · (repeat (first | ((with_reducible refine rgn_cons rfl (fun K hK => ?_)); simp only [go_sem, seval, ↓reduceIte, decide_true, decide_false, hs, decide_false]; (first | refine hK _ _ _ (by simp only [go_sem, Nat.reduceEqDiff, ↓reduceIte]; rfl) ?_ | refine ⟨_, c_spec_l01Mod m x hm (by omega), hK _ _ _ (by simp only [go_sem, Nat.reduceEqDiff, ↓reduceIte]; rfl) ?_⟩); clear hK; clear K) | (with_reducible first | refine rgn_nil (by first | trivial | kernel_rfl) ?_ | refine AWP.seq ?_ | refine tX hC hP (by kernel_rfl) ?_ | refine aX hC hM hP (by kernel_rfl) ?_ | refine AWP.skip ?_ | refine AWP.label ?_ | refine AWP.exit ?_ | refine AWP.block ?_ | refine cTa ?_ | refine cFa ?_) | simp only [qS, Nat.reduceEqDiff, ↓reduceIte]))
      (refine AWP.ret ?_; refine retOk1 (by simp only [go_sem, seval, ↓reduceIte, decide_true, decide_false]; rfl) ?_)
      rw [eu_end hs] at hE
      rw [hE]; rfl
set_option maxHeartbeats 1000000 in
theorem c_impl_inverse (m a : Int) (hm : 0 < m) (hm2 : m ≤ 1000000000) : AFn Try.prog 47 [.int .i64 m, .int .i64 a] (.int .i64 (invL m a)) := by
  refine AFn.of' ttOk (by decide) Try.func47 Try.ntmps47 (by rw [Try.results47]) (by rfl) (by rfl) (by simp) (by decide) (by simp only [go_sem, Nat.reduceAdd, ↓reduceIte]; rfl) mixed (fun C hP hM hC => ?_)
  (repeat (first | ((with_reducible refine rgn_cons rfl (fun K hK => ?_)); simp only [go_sem, seval, ↓reduceIte, decide_true, decide_false]; (first | refine hK _ _ _ (by simp only [go_sem, Nat.reduceEqDiff, ↓reduceIte]; rfl) ?_ | refine ⟨_, c_impl_mod a m hm (by omega), hK _ _ _ (by simp only [go_sem, Nat.reduceEqDiff, ↓reduceIte]; rfl) ?_⟩); clear hK; clear K) | (with_reducible first | refine rgn_nil (by first | trivial | kernel_rfl) ?_ | refine AWP.seq ?_ | refine tX hC hP (by kernel_rfl) ?_ | refine aX hC hM hP (by kernel_rfl) ?_ | refine AWP.skip ?_ | refine AWP.label ?_ | refine AWP.exit ?_ | refine AWP.block ?_ | refine cTa ?_ | refine cFa ?_) | simp only [qS, Nat.reduceEqDiff, ↓reduceIte]))
  refine AWP.loop (fun w : Int × Int × Int × Int => [(7, ⟨0, .val (.int .i64 w.1)⟩), (8, ⟨0, .val (.int .i64 w.2.1)⟩), (5, ⟨0, .val (.int .i64 w.2.2.1)⟩), (6, ⟨0, .val (.int .i64 w.2.2.2)⟩), (0, ⟨0, .val (.int .i64 m)⟩)]) (fun w => EuB m w.1 w.2.1 w.2.2.1 w.2.2.2 ∧ eu w.1 w.2.1 w.2.2.1 w.2.2.2 = eu m (a % m) 0 1) (fun w => w.2.1.toNat) (m, a % m, 0, 1) ⟨EuB_start hm, rfl⟩ (fun i => rfl) ?_ (fun w hw => ?_)
  · simp [Sub, lk]
  · obtain ⟨r, s, x, y⟩ := w
    obtain ⟨hB, hE⟩ := hw
    simp only at hB hE ⊢
    by_cases hs : 0 < s
    · obtain ⟨g1, g2, g3, g4, e, g5, g6, g7, g8⟩ := EuB_facts hB hs
      have hr := hB.1
      have td : r.tdiv s = r / s := Int.tdiv_eq_ediv_of_nonneg (by omega)
      (repeat (first | ((with_reducible refine rgn_cons rfl (fun K hK => ?_)); simp only [go_sem, seval, ↓reduceIte, decide_true, decide_false, show (s != 0) = true by simp; omega, show s ≠ 0 by omega, td, wid (r / s) (by omega) (by omega), wid (r / s * s) (by omega) (by omega), e, wid (r % s) (by have := emod_b r s hs; have := hB.2.2.2.1; omega) (by have := emod_b r s hs; have := hB.2.2.2.1; omega), wid (r / s * y) (by omega) (by omega), wid (x - r / s * y) (by omega) (by omega)]; (refine hK _ _ _ (by simp only [go_sem, Nat.reduceEqDiff, ↓reduceIte]; rfl) ?_); clear hK; clear K) | (with_reducible first | refine rgn_nil (by first | trivial | kernel_rfl) ?_ | refine AWP.seq ?_ | refine tX hC hP (by kernel_rfl) ?_ | refine aX hC hM hP (by kernel_rfl) ?_ | refine AWP.skip ?_ | refine AWP.label ?_ | refine AWP.exit ?_ | refine AWP.block ?_ | refine cTa ?_ | refine cFa ?_) | simp only [qS, Nat.reduceEqDiff, ↓reduceIte]))
      refine ⟨(s, r % s, y, x - r / s * y), ⟨EuB_step hB hs, by rw [← hE]; exact (eu_step hs).symm⟩, ?_, by simp [Sub, lk]⟩
      have := emod_b r s hs
      simp only
      omega
    · have hs0 : s = 0 := by have := hB.2.2.1; omega
      (repeat (first | ((with_reducible refine rgn_cons rfl (fun K hK => ?_)); simp only [go_sem, seval, ↓reduceIte, decide_true, decide_false, show (s != 0) = false by simp [hs0]]; (first | refine hK _ _ _ (by simp only [go_sem, Nat.reduceEqDiff, ↓reduceIte]; rfl) ?_ | refine ⟨_, c_impl_mod x m hm (by omega), hK _ _ _ (by simp only [go_sem, Nat.reduceEqDiff, ↓reduceIte]; rfl) ?_⟩); clear hK; clear K) | (with_reducible first | refine rgn_nil (by first | trivial | kernel_rfl) ?_ | refine AWP.seq ?_ | refine tX hC hP (by kernel_rfl) ?_ | refine aX hC hM hP (by kernel_rfl) ?_ | refine AWP.skip ?_ | refine AWP.label ?_ | refine AWP.exit ?_ | refine AWP.block ?_ | refine cTa ?_ | refine cFa ?_) | simp only [qS, Nat.reduceEqDiff, ↓reduceIte]))
      (refine AWP.ret ?_; refine retOk1 (by simp only [go_sem, seval, ↓reduceIte, decide_true, decide_false]; rfl) ?_)
      rw [eu_end hs] at hE
      rw [hE]; rfl
-- Powers of numbers.
set_option maxHeartbeats 1000000 in
theorem c_spec_l01Pow (m a : Int) (k : Nat) (hm : 0 < m) (hm2 : m ≤ 10000) (hk : k ≤ 1000000000000) : AFn Try.prog 62 [.int .i64 m, .int .i64 a, .int .i64 k] (.int .i64 (a ^ k % m)) := by
  refine AFn.of' ttOk (by decide) Try.func62 Try.ntmps62 (by rw [Try.results62]) (by rfl) (by rfl) (by simp) (by decide) (by simp only [go_sem, Nat.reduceAdd, ↓reduceIte]; rfl) mixed (fun C hP hM hC => ?_)
  have h1 := emod_b 1 m hm
  have ha := emod_b a m hm
  (repeat (first | ((with_reducible refine rgn_cons rfl (fun K hK => ?_)); simp only [go_sem, seval, ↓reduceIte, decide_true, decide_false, show m ≠ 0 by omega, tm 1 m (by omega)]; (first | refine hK _ _ _ (by simp only [go_sem, Nat.reduceEqDiff, ↓reduceIte]; rfl) ?_ | refine ⟨_, c_spec_l01Mod m a hm (by omega), hK _ _ _ (by simp only [go_sem, Nat.reduceEqDiff, ↓reduceIte]; rfl) ?_⟩); clear hK; clear K) | (with_reducible first | refine rgn_nil (by first | trivial | kernel_rfl) ?_ | refine AWP.seq ?_ | refine tX hC hP (by kernel_rfl) ?_ | refine aX hC hM hP (by kernel_rfl) ?_ | refine AWP.skip ?_ | refine AWP.label ?_ | refine AWP.exit ?_ | refine AWP.block ?_ | refine cTa ?_ | refine cFa ?_) | simp only [qS, Nat.reduceEqDiff, ↓reduceIte]))
  refine AWP.loop (fun w : Nat × Int × Int => [(2, ⟨0, .val (.int .i64 w.1)⟩), (7, ⟨0, .val (.int .i64 w.2.1)⟩), (1, ⟨0, .val (.int .i64 w.2.2)⟩), (0, ⟨0, .val (.int .i64 m)⟩)]) (fun w => w.1 ≤ k ∧ (0 ≤ w.2.1 ∧ w.2.1 < m) ∧ (0 ≤ w.2.2 ∧ w.2.2 < m) ∧ w.2.1 * w.2.2 ^ w.1 % m = a ^ k % m) (fun w => w.1) (k, 1 % m, a % m) ⟨Nat.le_refl _, h1, ha, by rw [mul_emod_l, Int.one_mul, pow_emod_l]⟩ (fun i => rfl) ?_ (fun w hw => ?_)
  · simp [Sub, lk]
  · obtain ⟨j, o, b⟩ := w
    simp only at hw ⊢
    obtain ⟨hj, ho, hb, hE⟩ := hw
    by_cases hs : 0 < j
    · have b1 := mul_bound4 ho.1 ho.2 hb.1 hb.2 hm2
      have b2 := mul_bound4 hb.1 hb.2 hb.1 hb.2 hm2
      have hs' : (0 : Int) < (j : Int) := by omega
      by_cases ho2 : j % 2 = 1
      · (repeat (first | ((with_reducible refine rgn_cons rfl (fun K hK => ?_)); simp only [go_sem, seval, ↓reduceIte, decide_true, decide_false, hs', nat_tmod2, nat_tdiv2, ho2, Int.cast_ofNat_Int, wid (o * b) (by omega) (by omega), wid (b * b) (by omega) (by omega), tm _ m b1.1, tm _ m b2.1, show m ≠ 0 by omega, show (2 : Int) ≠ 0 by omega, wid ((j / 2 : Nat) : Int) (by omega) (by omega)]; (refine hK _ _ _ (by simp only [go_sem, Nat.reduceEqDiff, ↓reduceIte]; rfl) ?_); clear hK; clear K) | (with_reducible first | refine rgn_nil (by first | trivial | kernel_rfl) ?_ | refine AWP.seq ?_ | refine tX hC hP (by kernel_rfl) ?_ | refine aX hC hM hP (by kernel_rfl) ?_ | refine AWP.skip ?_ | refine AWP.label ?_ | refine AWP.exit ?_ | refine AWP.block ?_ | refine cTa ?_ | refine cFa ?_) | simp only [qS, Nat.reduceEqDiff, ↓reduceIte]))
        exact ⟨(j / 2, o * b % m, b * b % m), ⟨by simp only; omega, emod_b _ m hm, emod_b _ m hm, by rw [← hE]; exact pw_odd o b m j ho2⟩, by simp only; omega, by simp [Sub, lk]⟩
      · have ho3 : j % 2 = 0 := by omega
        (repeat (first | ((with_reducible refine rgn_cons rfl (fun K hK => ?_)); simp only [go_sem, seval, ↓reduceIte, decide_true, decide_false, hs', nat_tmod2, nat_tdiv2, ho3, Int.cast_ofNat_Int, Int.natCast_zero, wid (b * b) (by omega) (by omega), tm _ m b2.1, show m ≠ 0 by omega, show (2 : Int) ≠ 0 by omega, wid ((j / 2 : Nat) : Int) (by omega) (by omega)]; (refine hK _ _ _ (by simp only [go_sem, Nat.reduceEqDiff, ↓reduceIte]; rfl) ?_); clear hK; clear K) | (with_reducible first | refine rgn_nil (by first | trivial | kernel_rfl) ?_ | refine AWP.seq ?_ | refine tX hC hP (by kernel_rfl) ?_ | refine aX hC hM hP (by kernel_rfl) ?_ | refine AWP.skip ?_ | refine AWP.label ?_ | refine AWP.exit ?_ | refine AWP.block ?_ | refine cTa ?_ | refine cFa ?_) | simp only [qS, Nat.reduceEqDiff, ↓reduceIte]))
        exact ⟨(j / 2, o, b * b % m), ⟨by simp only; omega, ho, emod_b _ m hm, by rw [← hE]; exact pw_even o b m j ho3⟩, by simp only; omega, by simp [Sub, lk]⟩
    · have hj0 : j = 0 := by omega
      subst hj0
      (repeat (first | ((with_reducible refine rgn_cons rfl (fun K hK => ?_)); simp only [go_sem, seval, ↓reduceIte, decide_true, decide_false, show ¬ (0 : Int) < ((0 : Nat) : Int) by omega, Int.natCast_zero, decide_false]; (refine hK _ _ _ (by simp only [go_sem, Nat.reduceEqDiff, ↓reduceIte]; rfl) ?_); clear hK; clear K) | (with_reducible first | refine rgn_nil (by first | trivial | kernel_rfl) ?_ | refine AWP.seq ?_ | refine tX hC hP (by kernel_rfl) ?_ | refine aX hC hM hP (by kernel_rfl) ?_ | refine AWP.skip ?_ | refine AWP.label ?_ | refine AWP.exit ?_ | refine AWP.block ?_ | refine cTa ?_ | refine cFa ?_) | simp only [qS, Nat.reduceEqDiff, ↓reduceIte]))
      (refine AWP.ret ?_; refine retOk1 (by simp only [go_sem, seval, ↓reduceIte, decide_true, decide_false]; rfl) ?_)
      rw [← hE, Int.pow_zero, Int.mul_one, Int.emod_eq_of_lt ho.1 ho.2]
set_option maxHeartbeats 1000000 in
theorem c_impl_power (m a : Int) (k : Nat) (hm : 0 < m) (hm2 : m ≤ 10000) (ha : 0 ≤ a) (ha2 : a < m) (hk : k ≤ 1000000000000) : AFn Try.prog 45 [.int .i64 m, .int .i64 a, .int .i64 k] (.int .i64 (a ^ k % m)) := by
  refine AFn.of' ttOk (by decide) Try.func45 Try.ntmps45 (by rw [Try.results45]) (by rfl) (by rfl) (by simp) (by decide) (by simp only [go_sem, Nat.reduceAdd, ↓reduceIte]; rfl) mixed (fun C hP hM hC => ?_)
  have h1 := emod_b 1 m hm
  (repeat (first | ((with_reducible refine rgn_cons rfl (fun K hK => ?_)); simp only [go_sem, seval, ↓reduceIte, decide_true, decide_false, show m ≠ 0 by omega, tm 1 m (by omega)]; (refine hK _ _ _ (by simp only [go_sem, Nat.reduceEqDiff, ↓reduceIte]; rfl) ?_); clear hK; clear K) | (with_reducible first | refine rgn_nil (by first | trivial | kernel_rfl) ?_ | refine AWP.seq ?_ | refine tX hC hP (by kernel_rfl) ?_ | refine aX hC hM hP (by kernel_rfl) ?_ | refine AWP.skip ?_ | refine AWP.label ?_ | refine AWP.exit ?_ | refine AWP.block ?_ | refine cTa ?_ | refine cFa ?_) | simp only [qS, Nat.reduceEqDiff, ↓reduceIte]))
  refine AWP.loop (fun w : Nat × Int × Int => [(2, ⟨0, .val (.int .i64 w.1)⟩), (7, ⟨0, .val (.int .i64 w.2.1)⟩), (1, ⟨0, .val (.int .i64 w.2.2)⟩), (0, ⟨0, .val (.int .i64 m)⟩)]) (fun w => w.1 ≤ k ∧ (0 ≤ w.2.1 ∧ w.2.1 < m) ∧ (0 ≤ w.2.2 ∧ w.2.2 < m) ∧ w.2.1 * w.2.2 ^ w.1 % m = a ^ k % m) (fun w => w.1) (k, 1 % m, a) ⟨Nat.le_refl _, h1, ⟨ha, ha2⟩, by rw [mul_emod_l, Int.one_mul]⟩ (fun i => rfl) ?_ (fun w hw => ?_)
  · simp [Sub, lk]
  · obtain ⟨j, o, b⟩ := w
    simp only at hw ⊢
    obtain ⟨hj, ho, hb, hE⟩ := hw
    by_cases hs : 0 < j
    · have hs' : (0 : Int) < (j : Int) := by omega
      by_cases ho2 : j % 2 = 1
      · (repeat (first | ((with_reducible refine rgn_cons rfl (fun K hK => ?_)); simp only [go_sem, seval, ↓reduceIte, decide_true, decide_false, hs', nat_tmod2, nat_tdiv2, ho2, Int.cast_ofNat_Int, show (2 : Int) ≠ 0 by omega, wid ((j / 2 : Nat) : Int) (by omega) (by omega)]; (first | refine hK _ _ _ (by simp only [go_sem, Nat.reduceEqDiff, ↓reduceIte]; rfl) ?_ | refine ⟨_, c_impl_mul m o b hm (by omega) ho.1 ho.2 hb.1 hb.2, hK _ _ _ (by simp only [go_sem, Nat.reduceEqDiff, ↓reduceIte]; rfl) ?_⟩ | refine ⟨_, c_impl_mul m b b hm (by omega) hb.1 hb.2 hb.1 hb.2, hK _ _ _ (by simp only [go_sem, Nat.reduceEqDiff, ↓reduceIte]; rfl) ?_⟩); clear hK; clear K) | (with_reducible first | refine rgn_nil (by first | trivial | kernel_rfl) ?_ | refine AWP.seq ?_ | refine tX hC hP (by kernel_rfl) ?_ | refine aX hC hM hP (by kernel_rfl) ?_ | refine AWP.skip ?_ | refine AWP.label ?_ | refine AWP.exit ?_ | refine AWP.block ?_ | refine cTa ?_ | refine cFa ?_) | simp only [qS, Nat.reduceEqDiff, ↓reduceIte]))
        exact ⟨(j / 2, o * b % m, b * b % m), ⟨by simp only; omega, emod_b _ m hm, emod_b _ m hm, by rw [← hE]; exact pw_odd o b m j ho2⟩, by simp only; omega, by simp [Sub, lk]⟩
      · have ho3 : j % 2 = 0 := by omega
        (repeat (first | ((with_reducible refine rgn_cons rfl (fun K hK => ?_)); simp only [go_sem, seval, ↓reduceIte, decide_true, decide_false, hs', nat_tmod2, nat_tdiv2, ho3, Int.cast_ofNat_Int, Int.natCast_zero, show (2 : Int) ≠ 0 by omega, wid ((j / 2 : Nat) : Int) (by omega) (by omega)]; (first | refine hK _ _ _ (by simp only [go_sem, Nat.reduceEqDiff, ↓reduceIte]; rfl) ?_ | refine ⟨_, c_impl_mul m b b hm (by omega) hb.1 hb.2 hb.1 hb.2, hK _ _ _ (by simp only [go_sem, Nat.reduceEqDiff, ↓reduceIte]; rfl) ?_⟩); clear hK; clear K) | (with_reducible first | refine rgn_nil (by first | trivial | kernel_rfl) ?_ | refine AWP.seq ?_ | refine tX hC hP (by kernel_rfl) ?_ | refine aX hC hM hP (by kernel_rfl) ?_ | refine AWP.skip ?_ | refine AWP.label ?_ | refine AWP.exit ?_ | refine AWP.block ?_ | refine cTa ?_ | refine cFa ?_) | simp only [qS, Nat.reduceEqDiff, ↓reduceIte]))
        exact ⟨(j / 2, o, b * b % m), ⟨by simp only; omega, ho, emod_b _ m hm, by rw [← hE]; exact pw_even o b m j ho3⟩, by simp only; omega, by simp [Sub, lk]⟩
    · have hj0 : j = 0 := by omega
      subst hj0
      (repeat (first | ((with_reducible refine rgn_cons rfl (fun K hK => ?_)); simp only [go_sem, seval, ↓reduceIte, decide_true, decide_false, show ¬ (0 : Int) < ((0 : Nat) : Int) by omega, Int.natCast_zero, decide_false]; (refine hK _ _ _ (by simp only [go_sem, Nat.reduceEqDiff, ↓reduceIte]; rfl) ?_); clear hK; clear K) | (with_reducible first | refine rgn_nil (by first | trivial | kernel_rfl) ?_ | refine AWP.seq ?_ | refine tX hC hP (by kernel_rfl) ?_ | refine aX hC hM hP (by kernel_rfl) ?_ | refine AWP.skip ?_ | refine AWP.label ?_ | refine AWP.exit ?_ | refine AWP.block ?_ | refine cTa ?_ | refine cFa ?_) | simp only [qS, Nat.reduceEqDiff, ↓reduceIte]))
      (refine AWP.ret ?_; refine retOk1 (by simp only [go_sem, seval, ↓reduceIte, decide_true, decide_false]; rfl) ?_)
      rw [← hE, Int.pow_zero, Int.mul_one, Int.emod_eq_of_lt ho.1 ho.2]
-- Powers of series.
theorem oneL_of (d : Nat) : tab (d + 1) (fun j => if j = 0 then 1 else 0) = oneL d := rfl
set_option maxHeartbeats 1000000 in
theorem c_spec_l02Power (m : Int) (la : List Int) (k d : Nat) (hm : 1 < m) (hm2 : m ≤ 10000) (ha : ∀ x ∈ la, 0 ≤ x ∧ x < m) (hla : la.length ≤ 1000000) (hd : d ≤ 999999) (hk : k ≤ 1000000000000) : AFn Try.prog 70 [.int .i64 m, .sl false 2 (intL la), .int .i64 k, .int .i64 d] (.sl true 2 (intL (powL m la k d))) := by
  refine AFn.of' ttOk (by decide) Try.func70 Try.ntmps70 (by rw [Try.results70]) (by rfl) (by rfl) (by simp) (by decide) (by simp only [go_sem, Nat.reduceAdd, ↓reduceIte]; rfl) mixed (fun C hP hM hC => ?_)
  have h0 : 0 < (tab (d + 1) (fun _ => 0)).length := by rw [tab_length]; omega
  (repeat (first | ((with_reducible refine rgn_cons rfl (fun K hK => ?_)); simp only [go_sem, seval, ↓reduceIte, decide_true, decide_false, wid ((d : Int) + 1) (by omega) (by omega), show (0 : Int) ≤ (d : Int) + 1 by omega, show ((d : Int) + 1).toNat = d + 1 by omega, show (d : Int) + 1 ≤ 1099511627776 by omega, intL_replicate, tab_zero, tab_length, Int.le_refl, Int.toNat_zero, show (0 : Int) < ((d + 1 : Nat) : Int) by omega, intL_get _ _ h0, List.take_zero, Nat.zero_mul, intL_modify, tab_set, oneL_of]; (refine hK _ _ _ (by simp only [go_sem, Nat.reduceEqDiff, ↓reduceIte]; rfl) ?_); clear hK; clear K) | (with_reducible first | refine rgn_nil (by first | trivial | kernel_rfl) ?_ | refine AWP.seq ?_ | refine tX hC hP (by kernel_rfl) ?_ | refine aX hC hM hP (by kernel_rfl) ?_ | refine AWP.skip ?_ | refine AWP.label ?_ | refine AWP.exit ?_ | refine AWP.block ?_ | refine cTa ?_ | refine cFa ?_) | simp only [qS, Nat.reduceEqDiff, ↓reduceIte]))
  refine AWP.loop (fun w : Nat × List Int × List Int × Nat × Option Nat => match w with
    | (j, o, b, v9, none) => [(2, ⟨0, .val (.int .i64 j)⟩), (9, ⟨v9, .own (.sl true 2 (intL o))⟩), (1, ⟨0, .val (.sl false 2 (intL b))⟩), (0, ⟨0, .val (.int .i64 m)⟩), (3, ⟨0, .val (.int .i64 d)⟩)]
    | (j, o, b, v9, some v1) => [(2, ⟨0, .val (.int .i64 j)⟩), (9, ⟨v9, .own (.sl true 2 (intL o))⟩), (1, ⟨v1, .own (.sl true 2 (intL b))⟩), (0, ⟨0, .val (.int .i64 m)⟩), (3, ⟨0, .val (.int .i64 d)⟩)]) (fun w => w.1 ≤ k ∧ (w.2.1.length = d + 1 ∧ ∀ x ∈ w.2.1, 0 ≤ x ∧ x < m) ∧ (w.2.2.1.length ≤ 1000000 ∧ ∀ x ∈ w.2.2.1, 0 ≤ x ∧ x < m) ∧ pwL m d w.2.1 w.2.2.1 w.1 = powL m la k d) (fun w => w.1) (k, oneL d, la, 1, none) ⟨Nat.le_refl _, ⟨oneL_length d, oneL_num d hm⟩, ⟨hla, ha⟩, rfl⟩ (fun w => by obtain ⟨_, _, _, _, x⟩ := w; cases x <;> rfl) ?_ (fun w hw => ?_)
  · simp [Sub, lk]
  · obtain ⟨j, o, b, v9, v1⟩ := w
    simp only at hw
    obtain ⟨hj, ho, hb, hE⟩ := hw
    have hT1 := c_spec_l02Times m o b d (by omega) hm2 ho.2 hb.2 (by omega) hb.1 (by omega)
    have hT2 := c_spec_l02Times m b b d (by omega) hm2 hb.2 hb.2 hb.1 hb.1 (by omega)
    cases v1 with
    | none =>
      simp only
      by_cases hs : 0 < j
      · have hs' : (0 : Int) < (j : Int) := by omega
        by_cases ho2 : j % 2 = 1
        · (repeat (first | ((with_reducible refine rgn_cons rfl (fun K hK => ?_)); simp only [go_sem, seval, ↓reduceIte, decide_true, decide_false, hs', nat_tmod2, nat_tdiv2, ho2, Int.cast_ofNat_Int, show (2 : Int) ≠ 0 by omega, wid ((j / 2 : Nat) : Int) (by omega) (by omega)]; (first | refine hK _ _ _ (by simp only [go_sem, Nat.reduceEqDiff, ↓reduceIte]; rfl) ?_ | refine ⟨_, hT1, hK _ _ _ (by simp only [go_sem, Nat.reduceEqDiff, ↓reduceIte]; rfl) ?_⟩ | refine ⟨_, hT2, hK _ _ _ (by simp only [go_sem, Nat.reduceEqDiff, ↓reduceIte]; rfl) ?_⟩); clear hK; clear K) | (with_reducible first | refine rgn_nil (by first | trivial | kernel_rfl) ?_ | refine AWP.seq ?_ | refine tX hC hP (by kernel_rfl) ?_ | refine aX hC hM hP (by kernel_rfl) ?_ | refine AWP.skip ?_ | refine AWP.label ?_ | refine AWP.exit ?_ | refine AWP.block ?_ | refine cTa ?_ | refine cFa ?_) | simp only [qS, Nat.reduceEqDiff, ↓reduceIte]))
          exact ⟨(j / 2, timesL m o b d, timesL m b b d, v9 + 1, some 1), ⟨by simp only; omega, ⟨timesL_length _ _ _ _, timesL_num _ _ _ _ (by omega)⟩, ⟨by simp only; rw [timesL_length]; omega, timesL_num _ _ _ _ (by omega)⟩, by rw [← hE]; exact (pwL_odd ho2).symm⟩, by simp only; omega, by simp [Sub, lk]⟩
        · have ho3 : j % 2 = 0 := by omega
          (repeat (first | ((with_reducible refine rgn_cons rfl (fun K hK => ?_)); simp only [go_sem, seval, ↓reduceIte, decide_true, decide_false, hs', nat_tmod2, nat_tdiv2, ho3, Int.cast_ofNat_Int, Int.natCast_zero, show (2 : Int) ≠ 0 by omega, wid ((j / 2 : Nat) : Int) (by omega) (by omega)]; (first | refine hK _ _ _ (by simp only [go_sem, Nat.reduceEqDiff, ↓reduceIte]; rfl) ?_ | refine ⟨_, hT2, hK _ _ _ (by simp only [go_sem, Nat.reduceEqDiff, ↓reduceIte]; rfl) ?_⟩); clear hK; clear K) | (with_reducible first | refine rgn_nil (by first | trivial | kernel_rfl) ?_ | refine AWP.seq ?_ | refine tX hC hP (by kernel_rfl) ?_ | refine aX hC hM hP (by kernel_rfl) ?_ | refine AWP.skip ?_ | refine AWP.label ?_ | refine AWP.exit ?_ | refine AWP.block ?_ | refine cTa ?_ | refine cFa ?_) | simp only [qS, Nat.reduceEqDiff, ↓reduceIte]))
          exact ⟨(j / 2, o, timesL m b b d, v9, some 1), ⟨by simp only; omega, ho, ⟨by simp only; rw [timesL_length]; omega, timesL_num _ _ _ _ (by omega)⟩, by rw [← hE]; exact (pwL_even hs ho3).symm⟩, by simp only; omega, by simp [Sub, lk]⟩
      · have hj0 : j = 0 := by omega
        subst hj0
        (repeat (first | ((with_reducible refine rgn_cons rfl (fun K hK => ?_)); simp only [go_sem, seval, ↓reduceIte, decide_true, decide_false, show ¬ (0 : Int) < ((0 : Nat) : Int) by omega, Int.natCast_zero, decide_false]; (refine hK _ _ _ (by simp only [go_sem, Nat.reduceEqDiff, ↓reduceIte]; rfl) ?_); clear hK; clear K) | (with_reducible first | refine rgn_nil (by first | trivial | kernel_rfl) ?_ | refine AWP.seq ?_ | refine tX hC hP (by kernel_rfl) ?_ | refine aX hC hM hP (by kernel_rfl) ?_ | refine AWP.skip ?_ | refine AWP.label ?_ | refine AWP.exit ?_ | refine AWP.block ?_ | refine cTa ?_ | refine cFa ?_) | simp only [qS, Nat.reduceEqDiff, ↓reduceIte]))
        (refine AWP.ret ?_; refine retOk1 (by simp only [go_sem, seval, ↓reduceIte, decide_true, decide_false]; rfl) ?_)
        rw [← hE, pwL_zero]
    | some v1 =>
      simp only
      by_cases hs : 0 < j
      · have hs' : (0 : Int) < (j : Int) := by omega
        by_cases ho2 : j % 2 = 1
        · (repeat (first | ((with_reducible refine rgn_cons rfl (fun K hK => ?_)); simp only [go_sem, seval, ↓reduceIte, decide_true, decide_false, hs', nat_tmod2, nat_tdiv2, ho2, Int.cast_ofNat_Int, show (2 : Int) ≠ 0 by omega, wid ((j / 2 : Nat) : Int) (by omega) (by omega)]; (first | refine hK _ _ _ (by simp only [go_sem, Nat.reduceEqDiff, ↓reduceIte]; rfl) ?_ | refine ⟨_, hT1, hK _ _ _ (by simp only [go_sem, Nat.reduceEqDiff, ↓reduceIte]; rfl) ?_⟩ | refine ⟨_, hT2, hK _ _ _ (by simp only [go_sem, Nat.reduceEqDiff, ↓reduceIte]; rfl) ?_⟩); clear hK; clear K) | (with_reducible first | refine rgn_nil (by first | trivial | kernel_rfl) ?_ | refine AWP.seq ?_ | refine tX hC hP (by kernel_rfl) ?_ | refine aX hC hM hP (by kernel_rfl) ?_ | refine AWP.skip ?_ | refine AWP.label ?_ | refine AWP.exit ?_ | refine AWP.block ?_ | refine cTa ?_ | refine cFa ?_) | simp only [qS, Nat.reduceEqDiff, ↓reduceIte]))
          exact ⟨(j / 2, timesL m o b d, timesL m b b d, v9 + 1, some (v1 + 1)), ⟨by simp only; omega, ⟨timesL_length _ _ _ _, timesL_num _ _ _ _ (by omega)⟩, ⟨by simp only; rw [timesL_length]; omega, timesL_num _ _ _ _ (by omega)⟩, by rw [← hE]; exact (pwL_odd ho2).symm⟩, by simp only; omega, by simp [Sub, lk]⟩
        · have ho3 : j % 2 = 0 := by omega
          (repeat (first | ((with_reducible refine rgn_cons rfl (fun K hK => ?_)); simp only [go_sem, seval, ↓reduceIte, decide_true, decide_false, hs', nat_tmod2, nat_tdiv2, ho3, Int.cast_ofNat_Int, Int.natCast_zero, show (2 : Int) ≠ 0 by omega, wid ((j / 2 : Nat) : Int) (by omega) (by omega)]; (first | refine hK _ _ _ (by simp only [go_sem, Nat.reduceEqDiff, ↓reduceIte]; rfl) ?_ | refine ⟨_, hT2, hK _ _ _ (by simp only [go_sem, Nat.reduceEqDiff, ↓reduceIte]; rfl) ?_⟩); clear hK; clear K) | (with_reducible first | refine rgn_nil (by first | trivial | kernel_rfl) ?_ | refine AWP.seq ?_ | refine tX hC hP (by kernel_rfl) ?_ | refine aX hC hM hP (by kernel_rfl) ?_ | refine AWP.skip ?_ | refine AWP.label ?_ | refine AWP.exit ?_ | refine AWP.block ?_ | refine cTa ?_ | refine cFa ?_) | simp only [qS, Nat.reduceEqDiff, ↓reduceIte]))
          exact ⟨(j / 2, o, timesL m b b d, v9, some (v1 + 1)), ⟨by simp only; omega, ho, ⟨by simp only; rw [timesL_length]; omega, timesL_num _ _ _ _ (by omega)⟩, by rw [← hE]; exact (pwL_even hs ho3).symm⟩, by simp only; omega, by simp [Sub, lk]⟩
      · have hj0 : j = 0 := by omega
        subst hj0
        (repeat (first | ((with_reducible refine rgn_cons rfl (fun K hK => ?_)); simp only [go_sem, seval, ↓reduceIte, decide_true, decide_false, show ¬ (0 : Int) < ((0 : Nat) : Int) by omega, Int.natCast_zero, decide_false]; (refine hK _ _ _ (by simp only [go_sem, Nat.reduceEqDiff, ↓reduceIte]; rfl) ?_); clear hK; clear K) | (with_reducible first | refine rgn_nil (by first | trivial | kernel_rfl) ?_ | refine AWP.seq ?_ | refine tX hC hP (by kernel_rfl) ?_ | refine aX hC hM hP (by kernel_rfl) ?_ | refine AWP.skip ?_ | refine AWP.label ?_ | refine AWP.exit ?_ | refine AWP.block ?_ | refine cTa ?_ | refine cFa ?_) | simp only [qS, Nat.reduceEqDiff, ↓reduceIte]))
        (refine AWP.ret ?_; refine retOk1 (by simp only [go_sem, seval, ↓reduceIte, decide_true, decide_false]; rfl) ?_)
        rw [← hE, pwL_zero]
end Go.Proofs.Ytoooefcjkmfhoaa
