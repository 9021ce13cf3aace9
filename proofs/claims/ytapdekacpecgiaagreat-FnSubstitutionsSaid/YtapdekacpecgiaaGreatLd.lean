/-
  Codes; series of powers.
-/
import Derived.Test.YtapdekacpecgiaaGreatLc
import Derived.Test.YtapdekacpecgiaaGreatPa
namespace Go.Proofs.YtapdekacpecgiaaGreat
open Go.RowKit
set_option linter.unusedSimpArgs false
set_option linter.unusedVariables false
set_option linter.unusedSectionVars false
set_option maxRecDepth 20000
-- Codes; series of powers.
set_option maxHeartbeats 1000000 in
theorem c_impl_mod (n m : Int) (h : 0 < m) (h2 : m ≤ 4611686018427387904) : AFn Tryz.prog 128 [.int .i64 n, .int .i64 m] (.int .i64 (n % m)) := by
  refine AFn.of' ttOk (by decide) Tryz.func128 Tryz.ntmps128 (by rw [Tryz.results128]) (by rfl) (by rfl) (by simp) (by decide) (by simp only [go_sem, Nat.reduceAdd, ↓reduceIte]; rfl) mixed (fun C hP hM hC => ?_)
  have h1 := Int.neg_lt_tmod_of_pos' n h
  (repeat (first | ((with_reducible refine rgn_cons rfl (fun K hK => ?_)); simp only [go_sem, seval, ↓reduceIte, decide_true, decide_false, show m ≠ 0 by omega, wid (n.tmod m + m) (by omega) (by omega), go_mod n m h]; (refine hK _ _ _ (by simp only [go_sem, Nat.reduceEqDiff, ↓reduceIte]; rfl) ?_); clear hK; clear K) | (with_reducible first | refine rgn_nil (by first | trivial | kernel_rfl) ?_ | refine AWP.seq ?_ | refine tX hC hP (by kernel_rfl) ?_ | refine aX hC hM hP (by kernel_rfl) ?_ | refine AWP.skip ?_ | refine AWP.label ?_ | refine AWP.exit ?_ | refine AWP.block ?_ | refine cTa ?_ | refine cFa ?_) | simp only [qS, Nat.reduceEqDiff, ↓reduceIte]))
  (refine AWP.ret ?_; refine retOk1 (by simp only [go_sem, seval, ↓reduceIte, decide_true, decide_false]; rfl) ?_)
  rfl
set_option maxHeartbeats 1000000 in
theorem c_impl_zero (m d : Int) (n : Nat) (hd : d + 1 = n) (hn : n ≤ 1099511627776) : AFn Tryz.prog 119 [.int .i64 m, .int .i64 d] (.agg [.int .i64 m, .sl true 2 (intL (tab n (fun _ => 0)))]) := by
  refine AFn.of' ttOk (by decide) Tryz.func119 Tryz.ntmps119 (by rw [Tryz.results119]) (by rfl) (by rfl) (by simp) (by decide) (by simp only [go_sem, Nat.reduceAdd, ↓reduceIte]; rfl) mixed (fun C hP hM hC => ?_)
  (repeat (first | ((with_reducible refine rgn_cons rfl (fun K hK => ?_)); simp only [go_sem, seval, ↓reduceIte, decide_true, decide_false, wid (n : Int) (by omega) (by omega), hd, Int.natCast_nonneg, Int.toNat_natCast, show (n : Int) ≤ 1099511627776 by omega, intL_replicate, tab_zero, sizeL_intL]; (refine hK _ _ _ (by simp only [go_sem, Nat.reduceEqDiff, ↓reduceIte]; rfl) ?_); clear hK; clear K) | (with_reducible first | refine rgn_nil (by first | trivial | kernel_rfl) ?_ | refine AWP.seq ?_ | refine tX hC hP (by kernel_rfl) ?_ | refine aX hC hM hP (by kernel_rfl) ?_ | refine AWP.skip ?_ | refine AWP.label ?_ | refine AWP.exit ?_ | refine AWP.block ?_ | refine cTa ?_ | refine cFa ?_) | simp only [qS, Nat.reduceEqDiff, ↓reduceIte]))
  (refine AWP.ret ?_; refine retOk1 (by simp only [go_sem, seval, ↓reduceIte, decide_true, decide_false]; rfl) ?_)
  rfl
-- Series of powers.
set_option maxHeartbeats 1000000 in
theorem c_impl_Series_constant (m : Int) (l : List Int) (c : Int) (hl : l.length ≤ 1000000) (h0 : 0 < l.length) (hm : 0 < m) (hm2 : m ≤ 1000000000000) : AFn Tryz.prog 177 [.agg [.int .i64 m, .sl false 2 (intL l)], .int .i64 c] (.agg [.int .i64 m, .sl true 2 (intL (tab l.length (fun j => if j = 0 then c % m else 0)))]) := by
  refine AFn.of' ttOk (by decide) Tryz.func177 Tryz.ntmps177 (by rw [Tryz.results177]) (by rfl) (by rfl) (by simp) (by decide) (by simp only [go_sem, Nat.reduceAdd, ↓reduceIte]; rfl) mixed (fun C hP hM hC => ?_)
  have hI : (0 : Int) < (l.length : Int) := by omega
  (repeat (first | ((with_reducible refine rgn_cons rfl (fun K hK => ?_)); simp only [go_sem, seval, ↓reduceIte, decide_true, decide_false, tab_length, hI, Int.le_refl, Int.toNat_zero, intL_get _ 0 (show 0 < (tab l.length (fun _ => 0)).length by simpa [tab_length] using h0), intL_modify, tab_set, List.take_zero, Nat.zero_mul, show (0 : Int) < (l.length : Int) by omega, h0]; (first | refine hK _ _ _ (by simp only [go_sem, Nat.reduceEqDiff, ↓reduceIte]; rfl) ?_ | refine ⟨_, c_impl_Series_degree m l (by omega), hK _ _ _ (by simp only [go_sem, Nat.reduceEqDiff, ↓reduceIte]; rfl) ?_⟩ | refine ⟨_, c_impl_zero m ((l.length : Int) - 1) l.length (by omega) (by omega), hK _ _ _ (by simp only [go_sem, Nat.reduceEqDiff, ↓reduceIte]; rfl) ?_⟩ | refine ⟨_, c_impl_mod c m hm (by omega), hK _ _ _ (by simp only [go_sem, Nat.reduceEqDiff, ↓reduceIte]; rfl) ?_⟩); clear hK; clear K) | (with_reducible first | refine rgn_nil (by first | trivial | kernel_rfl) ?_ | refine AWP.seq ?_ | refine tX hC hP (by kernel_rfl) ?_ | refine aX hC hM hP (by kernel_rfl) ?_ | refine AWP.skip ?_ | refine AWP.label ?_ | refine AWP.exit ?_ | refine AWP.block ?_ | refine cTa ?_ | refine cFa ?_) | simp only [qS, Nat.reduceEqDiff, ↓reduceIte]))
  (refine AWP.ret ?_; refine retOk1 (by simp only [go_sem, seval, ↓reduceIte, decide_true, decide_false]; rfl) ?_)
  rfl
set_option maxHeartbeats 1000000 in
theorem c_spec_l02Make (m : Int) (l : List Int) : AFn Tryz.prog 77 [.int .i64 m, .sl true 2 (intL l)] (.agg [.int .i64 m, .sl true 2 (intL l)]) := by
  refine AFn.of' ttOk (by decide) Tryz.func77 Tryz.ntmps77 (by rw [Tryz.results77]) (by rfl) (by rfl) (by simp) (by decide) (by simp only [go_sem, Nat.reduceAdd, ↓reduceIte]; rfl) mixed (fun C hP hM hC => ?_)
  (repeat (first | ((with_reducible refine rgn_cons rfl (fun K hK => ?_)); simp only [go_sem, seval, ↓reduceIte, decide_true, decide_false]; (refine hK _ _ _ (by simp only [go_sem, Nat.reduceEqDiff, ↓reduceIte]; rfl) ?_); clear hK; clear K) | (with_reducible first | refine rgn_nil (by first | trivial | kernel_rfl) ?_ | refine AWP.seq ?_ | refine tX hC hP (by kernel_rfl) ?_ | refine aX hC hM hP (by kernel_rfl) ?_ | refine AWP.skip ?_ | refine AWP.label ?_ | refine AWP.exit ?_ | refine AWP.block ?_ | refine cTa ?_ | refine cFa ?_) | simp only [qS, Nat.reduceEqDiff, ↓reduceIte]))
  (refine AWP.ret ?_; refine retOk1 (by simp only [go_sem, seval, ↓reduceIte, decide_true, decide_false]; rfl) ?_)
  rfl
-- Products of series.
set_option maxHeartbeats 1000000 in
theorem c_impl_mul (m x y : Int) (hm : 0 < m) (hm2 : m ≤ 3000000000) (hx : 0 ≤ x) (hx2 : x < m) (hy : 0 ≤ y) (hy2 : y < m) : AFn Tryz.prog 199 [.int .i64 m, .int .i64 x, .int .i64 y] (.int .i64 (x * y % m)) := by
  refine AFn.of' ttOk (by decide) Tryz.func199 Tryz.ntmps199 (by rw [Tryz.results199]) (by rfl) (by rfl) (by simp) (by decide) (by simp only [go_sem, Nat.reduceAdd, ↓reduceIte]; rfl) mixed (fun C hP hM hC => ?_)
  have hb := mul_bound hx hx2 hy hy2 hm2
  (repeat (first | ((with_reducible refine rgn_cons rfl (fun K hK => ?_)); simp only [go_sem, seval, ↓reduceIte, decide_true, decide_false, hm2, wid (x * y) (by omega) (by omega), tm _ m hb.1, show m ≠ 0 by omega]; (refine hK _ _ _ (by simp only [go_sem, Nat.reduceEqDiff, ↓reduceIte]; rfl) ?_); clear hK; clear K) | (with_reducible first | refine rgn_nil (by first | trivial | kernel_rfl) ?_ | refine AWP.seq ?_ | refine tX hC hP (by kernel_rfl) ?_ | refine aX hC hM hP (by kernel_rfl) ?_ | refine AWP.skip ?_ | refine AWP.label ?_ | refine AWP.exit ?_ | refine AWP.block ?_ | refine cTa ?_ | refine cFa ?_) | simp only [qS, Nat.reduceEqDiff, ↓reduceIte]))
  (refine AWP.ret ?_; refine retOk1 (by simp only [go_sem, seval, ↓reduceIte, decide_true, decide_false]; rfl) ?_)
  rfl
set_option maxHeartbeats 1000000 in
theorem c_spec_l02Times (m : Int) (la lb : List Int) (d : Nat) (hm : 0 < m) (hm2 : m ≤ 10000) (ha : ∀ x ∈ la, 0 ≤ x ∧ x < m) (hb : ∀ x ∈ lb, 0 ≤ x ∧ x < m) (hla : la.length ≤ 1000000) (hlb : lb.length ≤ 1000000) (hd : d ≤ 1000000) : AFn Tryz.prog 182 [.int .i64 m, .sl false 2 (intL la), .sl false 2 (intL lb), .int .i64 d] (.sl true 2 (intL (timesL m la lb d))) := by
  refine AFn.of' ttOk (by decide) Tryz.func182 Tryz.ntmps182 (by rw [Tryz.results182]) (by rfl) (by rfl) (by simp) (by decide) (by simp only [go_sem, Nat.reduceAdd, ↓reduceIte]; rfl) mixed (fun C hP hM hC => ?_)
  have hm0 : m ≠ 0 := by omega
  (repeat (first | ((with_reducible refine rgn_cons rfl (fun K hK => ?_)); simp only [go_sem, seval, ↓reduceIte, decide_true, decide_false, wid ((d : Int) + 1) (by omega) (by omega), show (0 : Int) ≤ (d : Int) + 1 by omega, show ((d : Int) + 1).toNat = d + 1 by omega, show (d : Int) + 1 ≤ 1099511627776 by omega, intL_replicate, tab_zero]; (refine hK _ _ _ (by simp only [go_sem, Nat.reduceEqDiff, ↓reduceIte]; rfl) ?_); clear hK; clear K) | (with_reducible first | refine rgn_nil (by first | trivial | kernel_rfl) ?_ | refine AWP.seq ?_ | refine tX hC hP (by kernel_rfl) ?_ | refine aX hC hM hP (by kernel_rfl) ?_ | refine AWP.skip ?_ | refine AWP.label ?_ | refine AWP.exit ?_ | refine AWP.block ?_ | refine cTa ?_ | refine cFa ?_) | simp only [qS, Nat.reduceEqDiff, ↓reduceIte]))
  refine AWP.loop (fun i : Nat => [(10, ⟨0, .val (.int .i64 i)⟩), (9, ⟨1, .own (.sl true 2 (intL (tab (d + 1) (pr (at' la) (at' lb) m i))))⟩), (0, ⟨0, .val (.int .i64 m)⟩), (1, ⟨0, .val (.sl false 2 (intL la))⟩), (2, ⟨0, .val (.sl false 2 (intL lb))⟩), (3, ⟨0, .val (.int .i64 d)⟩)]) (fun i => i ≤ d + 1 ∧ i ≤ la.length) (fun i => d + 1 - i) 0 ⟨Nat.zero_le _, Nat.zero_le _⟩ (fun i => rfl) ?_ (fun i hi => ?_)
  · have e : tab (d + 1) (pr (at' la) (at' lb) m 0) = tab (d + 1) (fun _ => 0) := tab_congr fun j _ => pr_zero _ _ _ _
    simp [Sub, lk, e]
  · by_cases hc : i < la.length ∧ i ≤ d
    · have hI1 : ((i : Int) < (la.length : Int)) := by omega
      have hI2 : ((i : Int) ≤ (d : Int)) := by omega
      (repeat (first | ((with_reducible refine rgn_cons rfl (fun K hK => ?_)); simp only [go_sem, seval, ↓reduceIte, decide_true, decide_false, hI1, hI2]; (refine hK _ _ _ (by simp only [go_sem, Nat.reduceEqDiff, ↓reduceIte]; rfl) ?_); clear hK; clear K) | (with_reducible first | refine rgn_nil (by first | trivial | kernel_rfl) ?_ | refine AWP.seq ?_ | refine tX hC hP (by kernel_rfl) ?_ | refine aX hC hM hP (by kernel_rfl) ?_ | refine AWP.skip ?_ | refine AWP.label ?_ | refine AWP.exit ?_ | refine AWP.block ?_ | refine cTa ?_ | refine cFa ?_) | simp only [qS, Nat.reduceEqDiff, ↓reduceIte]))
      have e0 : tab (d + 1) (pr (at' la) (at' lb) m i) = tab (d + 1) (row (at' la) (at' lb) m i 0) := tab_congr fun j _ => (row_zero _ _ _ _ _).symm
      refine AWP.loop (fun k : Nat => [(11, ⟨0, .val (.int .i64 k)⟩), (10, ⟨0, .val (.int .i64 i)⟩), (9, ⟨1, .own (.sl true 2 (intL (tab (d + 1) (row (at' la) (at' lb) m i k))))⟩), (0, ⟨0, .val (.int .i64 m)⟩), (1, ⟨0, .val (.sl false 2 (intL la))⟩), (2, ⟨0, .val (.sl false 2 (intL lb))⟩), (3, ⟨0, .val (.int .i64 d)⟩)]) (fun k => k ≤ lb.length) (fun k => lb.length - k) 0 (Nat.zero_le _) (fun i => rfl) ?_ (fun k hk => ?_)
      · simp [Sub, lk, ← e0]
      · by_cases hk2 : k < lb.length ∧ i + k ≤ d ∧ at' la i ≠ 0
        · have hK1 : ((k : Int) < (lb.length : Int)) := by omega
          have hK2 : ((i : Int) + (k : Int) ≤ (d : Int)) := by omega
          have hK3 : (at' la i != 0) = true := by simpa using hk2.2.2
          have hx := at_bound ha hm i
          have hy := at_bound hb hm k
          have hxy := mul_bound4 hx.1 hx.2 hy.1 hy.2 hm2
          have hp := pr_bound (at' la) (at' lb) hm i (i + k)
          have hlen : i + k < (tab (d + 1) (row (at' la) (at' lb) m i k)).length := by rw [tab_length]; omega
          have g1 : (tab (d + 1) (row (at' la) (at' lb) m i k)).getD (i + k) 0 = pr (at' la) (at' lb) m i (i + k) := by rw [tab_getD (by omega), row_at]
          (repeat (first | ((with_reducible refine rgn_cons rfl (fun K hK => ?_)); simp only [go_sem, seval, ↓reduceIte, decide_true, decide_false, hK1, hK2, hK3, wid ((i : Int) + k) (by omega) (by omega), intL_getD la i hc.1, intL_getD lb k hk2.1, intL_getD _ _ hlen, g1, show la.getD i 0 = at' la i from rfl, show lb.getD k 0 = at' lb k from rfl, Int.toNat_natCast, Int.natCast_nonneg, hI1, show ((i : Int) + k).toNat = i + k by omega, show (0 : Int) ≤ (i : Int) + k by omega, tab_length, show (i : Int) + k < ((d + 1 : Nat) : Int) by omega, wid (at' la i * at' lb k) (by omega) (by omega), wid (pr (at' la) (at' lb) m i (i + k) + at' la i * at' lb k) (by omega) (by omega), tm (pr (at' la) (at' lb) m i (i + k) + at' la i * at' lb k) m (by omega), pr_succ, hm0, Nat.mul_one, intL_get _ _ hlen, sizeL_take _ _ (Nat.le_of_lt hlen), intL_modify, tab_set' (fun n _ => row_set (at' la) (at' lb) m i k n), wid ((k : Int) + 1) (by omega) (by omega)]; (refine hK _ _ _ (by simp only [go_sem, Nat.reduceEqDiff, ↓reduceIte]; rfl) ?_); clear hK; clear K) | (with_reducible first | refine rgn_nil (by first | trivial | kernel_rfl) ?_ | refine AWP.seq ?_ | refine tX hC hP (by kernel_rfl) ?_ | refine aX hC hM hP (by kernel_rfl) ?_ | refine AWP.skip ?_ | refine AWP.label ?_ | refine AWP.exit ?_ | refine AWP.block ?_ | refine cTa ?_ | refine cFa ?_) | simp only [qS, Nat.reduceEqDiff, ↓reduceIte]))
          exact ⟨k + 1, by omega, by omega, by simp [Sub, lk]⟩
        · have hE : tab (d + 1) (row (at' la) (at' lb) m i k) = tab (d + 1) (pr (at' la) (at' lb) m (i + 1)) := tab_congr fun n hn => row_end fun hn2 => by
            by_cases h1 : k < lb.length
            · have h2 : at' la i = 0 := Classical.byContradiction fun h2 => hk2 ⟨h1, by omega, h2⟩
              rw [h2, Int.zero_mul]
            · rw [at_out (l := lb) (i := n - i) (by omega), Int.mul_zero]
          by_cases h1 : k < lb.length
          · have hK1 : ((k : Int) < (lb.length : Int)) := by omega
            by_cases h2 : i + k ≤ d
            · have hK2 : ((i : Int) + (k : Int) ≤ (d : Int)) := by omega
              have hK3 : (at' la i != 0) = false := by simpa using fun h3 => hk2 ⟨h1, h2, h3⟩
              (repeat (first | ((with_reducible refine rgn_cons rfl (fun K hK => ?_)); simp only [go_sem, seval, ↓reduceIte, decide_true, decide_false, hK1, hK2, hK3, wid ((i : Int) + k) (by omega) (by omega), intL_getD la i hc.1, show la.getD i 0 = at' la i from rfl, Int.toNat_natCast, Int.natCast_nonneg, hI1, wid ((i : Int) + 1) (by omega) (by omega)]; (refine hK _ _ _ (by simp only [go_sem, Nat.reduceEqDiff, ↓reduceIte]; rfl) ?_); clear hK; clear K) | (with_reducible first | refine rgn_nil (by first | trivial | kernel_rfl) ?_ | refine AWP.seq ?_ | refine tX hC hP (by kernel_rfl) ?_ | refine aX hC hM hP (by kernel_rfl) ?_ | refine AWP.skip ?_ | refine AWP.label ?_ | refine AWP.exit ?_ | refine AWP.block ?_ | refine cTa ?_ | refine cFa ?_) | simp only [qS, Nat.reduceEqDiff, ↓reduceIte]))
              exact ⟨i + 1, by omega, by omega, by simp [Sub, lk, hE]⟩
            · have hK2 : ¬ ((i : Int) + (k : Int) ≤ (d : Int)) := by omega
              (repeat (first | ((with_reducible refine rgn_cons rfl (fun K hK => ?_)); simp only [go_sem, seval, ↓reduceIte, decide_true, decide_false, hK1, hK2, decide_false, wid ((i : Int) + k) (by omega) (by omega), wid ((i : Int) + 1) (by omega) (by omega)]; (refine hK _ _ _ (by simp only [go_sem, Nat.reduceEqDiff, ↓reduceIte]; rfl) ?_); clear hK; clear K) | (with_reducible first | refine rgn_nil (by first | trivial | kernel_rfl) ?_ | refine AWP.seq ?_ | refine tX hC hP (by kernel_rfl) ?_ | refine aX hC hM hP (by kernel_rfl) ?_ | refine AWP.skip ?_ | refine AWP.label ?_ | refine AWP.exit ?_ | refine AWP.block ?_ | refine cTa ?_ | refine cFa ?_) | simp only [qS, Nat.reduceEqDiff, ↓reduceIte]))
              exact ⟨i + 1, by omega, by omega, by simp [Sub, lk, hE]⟩
          · have hK1 : ¬ ((k : Int) < (lb.length : Int)) := by omega
            (repeat (first | ((with_reducible refine rgn_cons rfl (fun K hK => ?_)); simp only [go_sem, seval, ↓reduceIte, decide_true, decide_false, hK1, decide_false, wid ((i : Int) + 1) (by omega) (by omega)]; (refine hK _ _ _ (by simp only [go_sem, Nat.reduceEqDiff, ↓reduceIte]; rfl) ?_); clear hK; clear K) | (with_reducible first | refine rgn_nil (by first | trivial | kernel_rfl) ?_ | refine AWP.seq ?_ | refine tX hC hP (by kernel_rfl) ?_ | refine aX hC hM hP (by kernel_rfl) ?_ | refine AWP.skip ?_ | refine AWP.label ?_ | refine AWP.exit ?_ | refine AWP.block ?_ | refine cTa ?_ | refine cFa ?_) | simp only [qS, Nat.reduceEqDiff, ↓reduceIte]))
            exact ⟨i + 1, by omega, by omega, by simp [Sub, lk, hE]⟩
    · have hE : tab (d + 1) (pr (at' la) (at' lb) m i) = timesL m la lb d := tab_congr fun n hn => pr_end fun j hj hj2 => at_out (by omega)
      by_cases h1 : i < la.length
      · have hI1 : ((i : Int) < (la.length : Int)) := by omega
        have hI2 : ¬ ((i : Int) ≤ (d : Int)) := by omega
        (repeat (first | ((with_reducible refine rgn_cons rfl (fun K hK => ?_)); simp only [go_sem, seval, ↓reduceIte, decide_true, decide_false, hI1, hI2, decide_false]; (refine hK _ _ _ (by simp only [go_sem, Nat.reduceEqDiff, ↓reduceIte]; rfl) ?_); clear hK; clear K) | (with_reducible first | refine rgn_nil (by first | trivial | kernel_rfl) ?_ | refine AWP.seq ?_ | refine tX hC hP (by kernel_rfl) ?_ | refine aX hC hM hP (by kernel_rfl) ?_ | refine AWP.skip ?_ | refine AWP.label ?_ | refine AWP.exit ?_ | refine AWP.block ?_ | refine cTa ?_ | refine cFa ?_) | simp only [qS, Nat.reduceEqDiff, ↓reduceIte]))
        (refine AWP.ret ?_; refine retOk1 (by simp only [go_sem, seval, ↓reduceIte, decide_true, decide_false]; rfl) ?_)
        rw [← hE]
      · have hI1 : ¬ ((i : Int) < (la.length : Int)) := by omega
        (repeat (first | ((with_reducible refine rgn_cons rfl (fun K hK => ?_)); simp only [go_sem, seval, ↓reduceIte, decide_true, decide_false, hI1, decide_false]; (refine hK _ _ _ (by simp only [go_sem, Nat.reduceEqDiff, ↓reduceIte]; rfl) ?_); clear hK; clear K) | (with_reducible first | refine rgn_nil (by first | trivial | kernel_rfl) ?_ | refine AWP.seq ?_ | refine tX hC hP (by kernel_rfl) ?_ | refine aX hC hM hP (by kernel_rfl) ?_ | refine AWP.skip ?_ | refine AWP.label ?_ | refine AWP.exit ?_ | refine AWP.block ?_ | refine cTa ?_ | refine cFa ?_) | simp only [qS, Nat.reduceEqDiff, ↓reduceIte]))
        (refine AWP.ret ?_; refine retOk1 (by simp only [go_sem, seval, ↓reduceIte, decide_true, decide_false]; rfl) ?_)
        rw [← hE]
-- Products of series: the program's.
set_option maxHeartbeats 1000000 in
theorem c_impl_Series_times (m : Int) (la lb : List Int) (d : Nat) (hm : 0 < m) (hm2 : m ≤ 10000) (ha : ∀ x ∈ la, 0 ≤ x ∧ x < m) (hb : ∀ x ∈ lb, 0 ≤ x ∧ x < m) (hla : la.length = d + 1) (hlb : lb.length = d + 1) (hd : d ≤ 1000000) : AFn Tryz.prog 179 [.agg [.int .i64 m, .sl false 2 (intL la)], .agg [.int .i64 m, .sl false 2 (intL lb)]] (.agg [.int .i64 m, .sl true 2 (intL (timesL m la lb d))]) := by
  refine AFn.of' ttOk (by decide) Tryz.func179 Tryz.ntmps179 (by rw [Tryz.results179]) (by rfl) (by rfl) (by simp) (by decide) (by simp only [go_sem, Nat.reduceAdd, ↓reduceIte]; rfl) mixed (fun C hP hM hC => ?_)
  have hm0 : m ≠ 0 := by omega
  (repeat (first | ((with_reducible refine rgn_cons rfl (fun K hK => ?_)); simp only [go_sem, seval, ↓reduceIte, decide_true, decide_false]; (first | refine hK _ _ _ (by simp only [go_sem, Nat.reduceEqDiff, ↓reduceIte]; rfl) ?_ | refine ⟨_, c_impl_Series_degree m la (by omega), hK _ _ _ (by simp only [go_sem, Nat.reduceEqDiff, ↓reduceIte]; rfl) ?_⟩ | refine ⟨_, c_impl_zero m ((la.length : Int) - 1) (d + 1) (by omega) (by omega), hK _ _ _ (by simp only [go_sem, Nat.reduceEqDiff, ↓reduceIte]; rfl) ?_⟩); clear hK; clear K) | (with_reducible first | refine rgn_nil (by first | trivial | kernel_rfl) ?_ | refine AWP.seq ?_ | refine tX hC hP (by kernel_rfl) ?_ | refine aX hC hM hP (by kernel_rfl) ?_ | refine AWP.skip ?_ | refine AWP.label ?_ | refine AWP.exit ?_ | refine AWP.block ?_ | refine cTa ?_ | refine cFa ?_) | simp only [qS, Nat.reduceEqDiff, ↓reduceIte]))
  refine AWP.loop (fun i : Nat => [(18, ⟨0, .val (.int .i64 i)⟩), (17, ⟨0, .val (.int .i64 (d + 1 : Nat))⟩), (16, ⟨0, .val (.sl false 2 (intL la))⟩), (5, ⟨2, .own (.box 29 (.agg [.int .i64 m, .sl true 2 (intL (tab (d + 1) (pr (at' la) (at' lb) m i)))]))⟩), (2, ⟨1, .own (.box 29 (.agg [.int .i64 m, .sl false 2 (intL la)]))⟩), (3, ⟨1, .own (.box 29 (.agg [.int .i64 m, .sl false 2 (intL lb)]))⟩), (4, ⟨1, .own (.box 29 (.agg [.int .i64 0, .nil]))⟩)]) (fun i => i ≤ d + 1) (fun i => d + 1 - i) 0 (Nat.zero_le _) (fun i => rfl) ?_ (fun i hi => ?_)
  · have e : tab (d + 1) (pr (at' la) (at' lb) m 0) = tab (d + 1) (fun _ => 0) := tab_congr fun j _ => pr_zero _ _ _ _
    simp [Sub, lk, e, hla]
  · by_cases hc : i < d + 1
    · have hI1 : ((i : Int) < ((d + 1 : Nat) : Int)) := by omega
      have hx := at_bound ha hm i
      have e0 : tab (d + 1) (pr (at' la) (at' lb) m i) = tab (d + 1) (row (at' la) (at' lb) m i 0) := tab_congr fun j _ => (row_zero _ _ _ _ _).symm
      (repeat (first | ((with_reducible refine rgn_cons rfl (fun K hK => ?_)); simp only [go_sem, seval, ↓reduceIte, decide_true, decide_false, hI1, hla, hlb, intL_getD la i (by omega), show la.getD i 0 = at' la i from rfl, Int.toNat_natCast, Int.natCast_nonneg, wid (((d + 1 : Nat) : Int) - i) (by omega) (by omega), show (0 : Int) ≤ ((d + 1 : Nat) : Int) - i by omega, show ((d + 1 : Nat) : Int) - i ≤ ((d + 1 : Nat) : Int) by omega, List.drop_zero, show (((d + 1 : Nat) : Int) - i).toNat = d + 1 - i by omega, show (intL lb).take (d + 1 - i) = intL (lb.take (d + 1 - i)) by simp [intL], List.length_take, Nat.min_eq_left (show d + 1 - i ≤ d + 1 by omega)]; (refine hK _ _ _ (by simp only [go_sem, Nat.reduceEqDiff, ↓reduceIte]; rfl) ?_); clear hK; clear K) | (with_reducible first | refine rgn_nil (by first | trivial | kernel_rfl) ?_ | refine AWP.seq ?_ | refine tX hC hP (by kernel_rfl) ?_ | refine aX hC hM hP (by kernel_rfl) ?_ | refine AWP.skip ?_ | refine AWP.label ?_ | refine AWP.exit ?_ | refine AWP.block ?_ | refine cTa ?_ | refine cFa ?_) | simp only [qS, Nat.reduceEqDiff, ↓reduceIte]))
      refine AWP.loop (fun k : Nat => [(32, ⟨0, .val (.int .i64 k)⟩), (31, ⟨0, .val (.int .i64 (d + 1 - i : Nat))⟩), (30, ⟨0, .val (.sl false 2 (intL (lb.take (d + 1 - i))))⟩), (6, ⟨0, .val (.int .i64 i)⟩), (7, ⟨0, .val (.int .i64 (at' la i))⟩), (18, ⟨0, .val (.int .i64 i)⟩), (17, ⟨0, .val (.int .i64 (d + 1 : Nat))⟩), (16, ⟨0, .val (.sl false 2 (intL la))⟩), (5, ⟨2, .own (.box 29 (.agg [.int .i64 m, .sl true 2 (intL (tab (d + 1) (row (at' la) (at' lb) m i k)))]))⟩), (2, ⟨1, .own (.box 29 (.agg [.int .i64 m, .sl false 2 (intL la)]))⟩), (3, ⟨1, .own (.box 29 (.agg [.int .i64 m, .sl false 2 (intL lb)]))⟩), (4, ⟨1, .own (.box 29 (.agg [.int .i64 0, .nil]))⟩)]) (fun k => k ≤ d + 1 - i) (fun k => d + 1 - i - k) 0 (Nat.zero_le _) (fun i => rfl) ?_ (fun k hk => ?_)
      · simp [Sub, lk, ← e0]
      · by_cases hk2 : k < d + 1 - i
        · have hy := at_bound hb hm k
          have hp := pr_bound (at' la) (at' lb) hm i (i + k)
          have hz := emod_b (at' la i * at' lb k) m hm
          have hlen : i + k < (tab (d + 1) (row (at' la) (at' lb) m i k)).length := by rw [tab_length]; omega
          have g1 : (tab (d + 1) (row (at' la) (at' lb) m i k)).getD (i + k) 0 = pr (at' la) (at' lb) m i (i + k) := by rw [tab_getD (by omega), row_at]
          have g2 : (lb.take (d + 1 - i)).getD k 0 = at' lb k := by simp [at', List.getD_eq_getElem?_getD, List.getElem?_take_of_lt hk2]
          have g3 : (pr (at' la) (at' lb) m i (i + k) + at' la i * at' lb k % m) % m = pr (at' la) (at' lb) m (i + 1) (i + k) := by rw [Int.add_emod_emod, pr_succ]
          have hlen2 : k < (lb.take (d + 1 - i)).length := by rw [List.length_take]; omega
          have hK1 : ((k : Int) < ((d + 1 - i : Nat) : Int)) := by omega
          (repeat (first | ((with_reducible refine rgn_cons rfl (fun K hK => ?_)); simp only [go_sem, seval, ↓reduceIte, decide_true, decide_false, hK1, wid ((i : Int) + k) (by omega) (by omega), intL_getD _ k hlen2, List.length_take, hlb, Nat.min_eq_left (show d + 1 - i ≤ d + 1 by omega), intL_getD _ _ hlen, g1, g2, g3, Int.toNat_natCast, Int.natCast_nonneg, show ((i : Int) + k).toNat = i + k by omega, show (0 : Int) ≤ (i : Int) + k by omega, tab_length, show (i : Int) + k < ((d + 1 : Nat) : Int) by omega, wid (pr (at' la) (at' lb) m i (i + k) + at' la i * at' lb k % m) (by omega) (by omega), tm (pr (at' la) (at' lb) m i (i + k) + at' la i * at' lb k % m) m (by omega), hm0, Nat.mul_one, intL_get _ _ hlen, sizeL_take _ _ (Nat.le_of_lt hlen), intL_modify, tab_set' (fun n _ => row_set (at' la) (at' lb) m i k n), wid ((k : Int) + 1) (by omega) (by omega)]; (first | refine hK _ _ _ (by simp only [go_sem, Nat.reduceEqDiff, ↓reduceIte]; rfl) ?_ | refine ⟨_, c_impl_mul m (at' la i) (at' lb k) hm (by omega) hx.1 hx.2 hy.1 hy.2, hK _ _ _ (by simp only [go_sem, Nat.reduceEqDiff, ↓reduceIte]; rfl) ?_⟩); clear hK; clear K) | (with_reducible first | refine rgn_nil (by first | trivial | kernel_rfl) ?_ | refine AWP.seq ?_ | refine tX hC hP (by kernel_rfl) ?_ | refine aX hC hM hP (by kernel_rfl) ?_ | refine AWP.skip ?_ | refine AWP.label ?_ | refine AWP.exit ?_ | refine AWP.block ?_ | refine cTa ?_ | refine cFa ?_) | simp only [qS, Nat.reduceEqDiff, ↓reduceIte]))
          exact ⟨k + 1, by omega, by omega, by simp [Sub, lk]⟩
        · have hE : tab (d + 1) (row (at' la) (at' lb) m i k) = tab (d + 1) (pr (at' la) (at' lb) m (i + 1)) := tab_congr fun n hn => row_end fun hn2 => by omega
          have hK1 : ¬ ((k : Int) < ((d + 1 - i : Nat) : Int)) := by omega
          (repeat (first | ((with_reducible refine rgn_cons rfl (fun K hK => ?_)); simp only [go_sem, seval, ↓reduceIte, decide_true, decide_false, hK1, decide_false, wid ((i : Int) + 1) (by omega) (by omega)]; (refine hK _ _ _ (by simp only [go_sem, Nat.reduceEqDiff, ↓reduceIte]; rfl) ?_); clear hK; clear K) | (with_reducible first | refine rgn_nil (by first | trivial | kernel_rfl) ?_ | refine AWP.seq ?_ | refine tX hC hP (by kernel_rfl) ?_ | refine aX hC hM hP (by kernel_rfl) ?_ | refine AWP.skip ?_ | refine AWP.label ?_ | refine AWP.exit ?_ | refine AWP.block ?_ | refine cTa ?_ | refine cFa ?_) | simp only [qS, Nat.reduceEqDiff, ↓reduceIte]))
          exact ⟨i + 1, by omega, by omega, by simp [Sub, lk, hE]⟩
    · have hE : tab (d + 1) (pr (at' la) (at' lb) m i) = timesL m la lb d := tab_congr fun n hn => pr_end fun j hj hj2 => at_out (by omega)
      have hI1 : ¬ ((i : Int) < ((d + 1 : Nat) : Int)) := by omega
      (repeat (first | ((with_reducible refine rgn_cons rfl (fun K hK => ?_)); simp only [go_sem, seval, ↓reduceIte, decide_true, decide_false, hI1, decide_false]; (refine hK _ _ _ (by simp only [go_sem, Nat.reduceEqDiff, ↓reduceIte]; rfl) ?_); clear hK; clear K) | (with_reducible first | refine rgn_nil (by first | trivial | kernel_rfl) ?_ | refine AWP.seq ?_ | refine tX hC hP (by kernel_rfl) ?_ | refine aX hC hM hP (by kernel_rfl) ?_ | refine AWP.skip ?_ | refine AWP.label ?_ | refine AWP.exit ?_ | refine AWP.block ?_ | refine cTa ?_ | refine cFa ?_) | simp only [qS, Nat.reduceEqDiff, ↓reduceIte]))
      (refine AWP.ret ?_; refine retOk1 (by simp only [go_sem, seval, ↓reduceIte, decide_true, decide_false]; rfl) ?_)
      rw [← hE]
-- Inverses modulo a number; greatest common divisors.
-- Powers of numbers.
-- Powers of series.
theorem oneL_of (d : Nat) : tab (d + 1) (fun j => if j = 0 then 1 else 0) = oneL d := rfl
end Go.Proofs.YtapdekacpecgiaaGreat
