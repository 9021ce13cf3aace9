/-
  Codes; series of powers.
-/
import Derived.Test.YtahnnangdepkbaaLc
import Derived.Test.YtahnnangdepkbaaPa
namespace Go.Proofs.Ytahnnangdepkbaa
open Go.RowKit
set_option linter.unusedSimpArgs false
set_option linter.unusedVariables false
set_option linter.unusedSectionVars false
set_option maxRecDepth 20000
-- Codes; series of powers.
set_option maxHeartbeats 1000000 in
theorem c_impl_mod (n m : Int) (h : 0 < m) (h2 : m ≤ 4611686018427387904) : AFn Try.prog 50 [.int .i64 n, .int .i64 m] (.int .i64 (n % m)) := by
  refine AFn.of' ttOk (by decide) Try.func50 Try.ntmps50 (by rw [Try.results50]) (by rfl) (by rfl) (by simp) (by decide) (by simp only [go_sem, Nat.reduceAdd, ↓reduceIte]; rfl) mixed (fun C hP hM hC => ?_)
  have h1 := Int.neg_lt_tmod_of_pos' n h
  (repeat (first | ((with_reducible refine rgn_cons rfl (fun K hK => ?_)); simp only [go_sem, seval, ↓reduceIte, decide_true, decide_false, show m ≠ 0 by omega, wid (n.tmod m + m) (by omega) (by omega), go_mod n m h]; (refine hK _ _ _ (by simp only [go_sem, Nat.reduceEqDiff, ↓reduceIte]; rfl) ?_); clear hK; clear K) | (with_reducible first | refine rgn_nil (by first | trivial | kernel_rfl) ?_ | refine AWP.seq ?_ | refine tX hC hP (by kernel_rfl) ?_ | refine aX hC hM hP (by kernel_rfl) ?_ | refine AWP.skip ?_ | refine AWP.label ?_ | refine AWP.exit ?_ | refine AWP.block ?_ | refine cTa ?_ | refine cFa ?_) | simp only [qS, Nat.reduceEqDiff, ↓reduceIte]))
  (refine AWP.ret ?_; refine retOk1 (by simp only [go_sem, seval, ↓reduceIte, decide_true, decide_false]; rfl) ?_)
  rfl
set_option maxHeartbeats 1000000 in
theorem c_impl_zero (m d : Int) (n : Nat) (hd : d + 1 = n) (hn : n ≤ 1099511627776) : AFn Try.prog 29 [.int .i64 m, .int .i64 d] (.agg [.int .i64 m, .sl true 2 (intL (tab n (fun _ => 0)))]) := by
  refine AFn.of' ttOk (by decide) Try.func29 Try.ntmps29 (by rw [Try.results29]) (by rfl) (by rfl) (by simp) (by decide) (by simp only [go_sem, Nat.reduceAdd, ↓reduceIte]; rfl) mixed (fun C hP hM hC => ?_)
  (repeat (first | ((with_reducible refine rgn_cons rfl (fun K hK => ?_)); simp only [go_sem, seval, ↓reduceIte, decide_true, decide_false, wid (n : Int) (by omega) (by omega), hd, Int.natCast_nonneg, Int.toNat_natCast, show (n : Int) ≤ 1099511627776 by omega, intL_replicate, tab_zero, sizeL_intL]; (refine hK _ _ _ (by simp only [go_sem, Nat.reduceEqDiff, ↓reduceIte]; rfl) ?_); clear hK; clear K) | (with_reducible first | refine rgn_nil (by first | trivial | kernel_rfl) ?_ | refine AWP.seq ?_ | refine tX hC hP (by kernel_rfl) ?_ | refine aX hC hM hP (by kernel_rfl) ?_ | refine AWP.skip ?_ | refine AWP.label ?_ | refine AWP.exit ?_ | refine AWP.block ?_ | refine cTa ?_ | refine cFa ?_) | simp only [qS, Nat.reduceEqDiff, ↓reduceIte]))
  (refine AWP.ret ?_; refine retOk1 (by simp only [go_sem, seval, ↓reduceIte, decide_true, decide_false]; rfl) ?_)
  rfl
-- Series of powers.
set_option maxHeartbeats 1000000 in
theorem c_impl_Series_constant (m : Int) (l : List Int) (c : Int) (hl : l.length ≤ 1000000) (h0 : 0 < l.length) (hm : 0 < m) (hm2 : m ≤ 1000000000000) : AFn Try.prog 30 [.agg [.int .i64 m, .sl false 2 (intL l)], .int .i64 c] (.agg [.int .i64 m, .sl true 2 (intL (tab l.length (fun j => if j = 0 then c % m else 0)))]) := by
  refine AFn.of' ttOk (by decide) Try.func30 Try.ntmps30 (by rw [Try.results30]) (by rfl) (by rfl) (by simp) (by decide) (by simp only [go_sem, Nat.reduceAdd, ↓reduceIte]; rfl) mixed (fun C hP hM hC => ?_)
  have hI : (0 : Int) < (l.length : Int) := by omega
  (repeat (first | ((with_reducible refine rgn_cons rfl (fun K hK => ?_)); simp only [go_sem, seval, ↓reduceIte, decide_true, decide_false, tab_length, hI, Int.le_refl, Int.toNat_zero, intL_get _ 0 (show 0 < (tab l.length (fun _ => 0)).length by simpa [tab_length] using h0), intL_modify, tab_set, List.take_zero, Nat.zero_mul, show (0 : Int) < (l.length : Int) by omega, h0]; (first | refine hK _ _ _ (by simp only [go_sem, Nat.reduceEqDiff, ↓reduceIte]; rfl) ?_ | refine ⟨_, c_impl_Series_degree m l (by omega), hK _ _ _ (by simp only [go_sem, Nat.reduceEqDiff, ↓reduceIte]; rfl) ?_⟩ | refine ⟨_, c_impl_zero m ((l.length : Int) - 1) l.length (by omega) (by omega), hK _ _ _ (by simp only [go_sem, Nat.reduceEqDiff, ↓reduceIte]; rfl) ?_⟩ | refine ⟨_, c_impl_mod c m hm (by omega), hK _ _ _ (by simp only [go_sem, Nat.reduceEqDiff, ↓reduceIte]; rfl) ?_⟩); clear hK; clear K) | (with_reducible first | refine rgn_nil (by first | trivial | kernel_rfl) ?_ | refine AWP.seq ?_ | refine tX hC hP (by kernel_rfl) ?_ | refine aX hC hM hP (by kernel_rfl) ?_ | refine AWP.skip ?_ | refine AWP.label ?_ | refine AWP.exit ?_ | refine AWP.block ?_ | refine cTa ?_ | refine cFa ?_) | simp only [qS, Nat.reduceEqDiff, ↓reduceIte]))
  (refine AWP.ret ?_; refine retOk1 (by simp only [go_sem, seval, ↓reduceIte, decide_true, decide_false]; rfl) ?_)
  rfl
set_option maxHeartbeats 1000000 in
theorem c_impl_Series_geometric (m z : Int) (l : List Int) (n : Nat) (h0 : 0 < l.length) (hl : l.length ≤ 1000000) (hm : 2 ≤ m) (hm2 : m ≤ 10000) (hz : 0 ≤ z) (hz2 : z < m) (hn : 0 < n) (hn2 : n ≤ 1000000) : AFn Try.prog 33 [.agg [.int .i64 m, .sl false 2 (intL l)], .int .i64 z, .int .i64 n] (.agg [.int .i64 m, .sl true 2 (intL (geo m z n (l.length - 1)))]) := by
  refine AFn.of' ttOk (by decide) Try.func33 Try.ntmps33 (by rw [Try.results33]) (by rfl) (by rfl) (by simp) (by decide) (by simp only [go_sem, Nat.reduceAdd, ↓reduceIte]; rfl) mixed (fun C hP hM hC => ?_)
  have hm0 : m ≠ 0 := by omega
  have e0 : (1 : Int) % m = 1 := Int.emod_eq_of_lt (by omega) (by omega)
  (repeat (first | ((with_reducible refine rgn_cons rfl (fun K hK => ?_)); simp only [go_sem, seval, ↓reduceIte, decide_true, decide_false]; (first | refine hK _ _ _ (by simp only [go_sem, Nat.reduceEqDiff, ↓reduceIte]; rfl) ?_ | refine ⟨_, c_impl_Series_constant m l 1 hl h0 (by omega) (by omega), hK _ _ _ (by simp only [go_sem, Nat.reduceEqDiff, ↓reduceIte]; rfl) ?_⟩); clear hK; clear K) | (with_reducible first | refine rgn_nil (by first | trivial | kernel_rfl) ?_ | refine AWP.seq ?_ | refine tX hC hP (by kernel_rfl) ?_ | refine aX hC hM hP (by kernel_rfl) ?_ | refine AWP.skip ?_ | refine AWP.label ?_ | refine AWP.exit ?_ | refine AWP.block ?_ | refine cTa ?_ | refine cFa ?_) | simp only [qS, Nat.reduceEqDiff, ↓reduceIte]))
  refine AWP.loop (fun c : Nat => [(9, ⟨0, .val (.int .i64 (c * n : Nat))⟩), (8, ⟨0, .val (.int .i64 (z ^ (c - 1) % m))⟩), (7, ⟨2, .own (.box 36 (.agg [.int .i64 m, .sl true 2 (intL (tab l.length (geoF m z n c)))]))⟩), (3, ⟨1, .own (.box 36 (.agg [.int .i64 m, .sl false 2 (intL l)]))⟩), (6, ⟨1, .own (.box 36 (.agg [.int .i64 0, .nil]))⟩), (1, ⟨0, .val (.int .i64 z)⟩), (2, ⟨0, .val (.int .i64 n)⟩)]) (fun c => 0 < c ∧ c ≤ l.length) (fun c => l.length - c) 1 (by omega) (fun i => rfl) ?_ (fun c hc => ?_)
  · have e2 : tab l.length (fun j => if j = 0 then 1 % m else 0) = tab l.length (geoF m z n 1) := tab_congr fun j _ => by
      unfold geoF
      by_cases e : j = 0
      · subst e; simp
      · rw [if_neg e, if_neg]
        rintro ⟨h1, h2⟩
        have := Nat.div_add_mod j n
        have h3 : j / n = 0 := Nat.lt_one_iff.1 h2
        rw [h1, h3] at this; simp at this; omega
    rw [e0] at e2
    simp [Sub, lk, e2, e0]
  · have hb := emod_b (z ^ (c - 1)) m (by omega)
    have hcn : (c + 1) * n ≤ 1000002 * 1000000 := Nat.mul_le_mul (by omega) hn2
    have hcn2 : (c + 1) * n = c * n + n := Nat.succ_mul c n
    (repeat (first | ((with_reducible refine rgn_cons rfl (fun K hK => ?_)); simp only [go_sem, seval, ↓reduceIte, decide_true, decide_false]; (first | refine hK _ _ _ (by simp only [go_sem, Nat.reduceEqDiff, ↓reduceIte]; rfl) ?_ | refine ⟨_, c_impl_Series_degree m l (by omega), hK _ _ _ (by simp only [go_sem, Nat.reduceEqDiff, ↓reduceIte]; rfl) ?_⟩); clear hK; clear K) | (with_reducible first | refine rgn_nil (by first | trivial | kernel_rfl) ?_ | refine AWP.seq ?_ | refine tX hC hP (by kernel_rfl) ?_ | refine aX hC hM hP (by kernel_rfl) ?_ | refine AWP.skip ?_ | refine AWP.label ?_ | refine AWP.exit ?_ | refine AWP.block ?_ | refine cTa ?_ | refine cFa ?_) | simp only [qS, Nat.reduceEqDiff, ↓reduceIte]))
    refine AWP.cond (by decide) rfl (fun h => ?_) (fun h => ?_)
    · have hlt : c * n < l.length := by have : ((c * n : Nat) : Int) ≤ (l.length : Int) - 1 := by simpa using h
                                        omega
      have hi : c * n < (tab l.length (geoF m z n c)).length := by rw [tab_length]; exact hlt
      have hmb := mul_bound4 hb.1 hb.2 hz hz2 hm2
      have e4 : z ^ (c - 1) % m * z % m = z ^ c % m := by rw [mul_emod_l, ← Int.pow_succ]; congr 2; omega
      have hI : ((c * n : Nat) : Int) < (l.length : Int) := by omega
      (repeat (first | ((with_reducible refine rgn_cons rfl (fun K hK => ?_)); simp only [go_sem, seval, ↓reduceIte, decide_true, decide_false, hm0, Int.natCast_nonneg, Int.toNat_natCast, tab_length, hI, Nat.mul_one, intL_get _ _ hi, sizeL_take _ _ (Nat.le_of_lt hi), intL_modify, tab_set' (fun j _ => geoF_set hn j), wid (z ^ (c - 1) % m * z) (by omega) (by omega), tm _ m hmb.1, e4, wid (((c * n : Nat) : Int) + n) (by omega) (by omega)]; (refine hK _ _ _ (by simp only [go_sem, Nat.reduceEqDiff, ↓reduceIte]; rfl) ?_); clear hK; clear K) | (with_reducible first | refine rgn_nil (by first | trivial | kernel_rfl) ?_ | refine AWP.seq ?_ | refine tX hC hP (by kernel_rfl) ?_ | refine aX hC hM hP (by kernel_rfl) ?_ | refine AWP.skip ?_ | refine AWP.label ?_ | refine AWP.exit ?_ | refine AWP.block ?_ | refine cTa ?_ | refine cFa ?_) | simp only [qS, Nat.reduceEqDiff, ↓reduceIte]))
      have hc1 := Nat.le_mul_of_pos_right c hn
      exact ⟨c + 1, by omega, by omega, by simp [Sub, lk, Int.add_mul]⟩
    · have hge : l.length ≤ c * n := by have : ¬ ((c * n : Nat) : Int) ≤ (l.length : Int) - 1 := by simpa using h
                                        omega
      (repeat (first | ((with_reducible refine rgn_cons rfl (fun K hK => ?_)); simp only [go_sem, seval, ↓reduceIte, decide_true, decide_false]; (refine hK _ _ _ (by simp only [go_sem, Nat.reduceEqDiff, ↓reduceIte]; rfl) ?_); clear hK; clear K) | (with_reducible first | refine rgn_nil (by first | trivial | kernel_rfl) ?_ | refine AWP.seq ?_ | refine tX hC hP (by kernel_rfl) ?_ | refine aX hC hM hP (by kernel_rfl) ?_ | refine AWP.skip ?_ | refine AWP.label ?_ | refine AWP.exit ?_ | refine AWP.block ?_ | refine cTa ?_ | refine cFa ?_) | simp only [qS, Nat.reduceEqDiff, ↓reduceIte]))
      (refine AWP.ret ?_; refine retOk1 (by simp only [go_sem, seval, ↓reduceIte, decide_true, decide_false]; rfl) ?_)
      have := geo_of (m := m) (z := z) (n := n) (c := c) (d := l.length - 1) hn (by omega)
      rw [← this, show l.length - 1 + 1 = l.length by omega]
-- Products of series.
set_option maxHeartbeats 1000000 in
theorem c_impl_mul (m x y : Int) (hm : 0 < m) (hm2 : m ≤ 3000000000) (hx : 0 ≤ x) (hx2 : x < m) (hy : 0 ≤ y) (hy2 : y < m) : AFn Try.prog 48 [.int .i64 m, .int .i64 x, .int .i64 y] (.int .i64 (x * y % m)) := by
  refine AFn.of' ttOk (by decide) Try.func48 Try.ntmps48 (by rw [Try.results48]) (by rfl) (by rfl) (by simp) (by decide) (by simp only [go_sem, Nat.reduceAdd, ↓reduceIte]; rfl) mixed (fun C hP hM hC => ?_)
  have hb := mul_bound hx hx2 hy hy2 hm2
  (repeat (first | ((with_reducible refine rgn_cons rfl (fun K hK => ?_)); simp only [go_sem, seval, ↓reduceIte, decide_true, decide_false, hm2, wid (x * y) (by omega) (by omega), tm _ m hb.1, show m ≠ 0 by omega]; (refine hK _ _ _ (by simp only [go_sem, Nat.reduceEqDiff, ↓reduceIte]; rfl) ?_); clear hK; clear K) | (with_reducible first | refine rgn_nil (by first | trivial | kernel_rfl) ?_ | refine AWP.seq ?_ | refine tX hC hP (by kernel_rfl) ?_ | refine aX hC hM hP (by kernel_rfl) ?_ | refine AWP.skip ?_ | refine AWP.label ?_ | refine AWP.exit ?_ | refine AWP.block ?_ | refine cTa ?_ | refine cFa ?_) | simp only [qS, Nat.reduceEqDiff, ↓reduceIte]))
  (refine AWP.ret ?_; refine retOk1 (by simp only [go_sem, seval, ↓reduceIte, decide_true, decide_false]; rfl) ?_)
  rfl
-- Products of series: the program's.
set_option maxHeartbeats 1000000 in
theorem c_impl_Series_times (m : Int) (la lb : List Int) (d : Nat) (hm : 0 < m) (hm2 : m ≤ 10000) (ha : ∀ x ∈ la, 0 ≤ x ∧ x < m) (hb : ∀ x ∈ lb, 0 ≤ x ∧ x < m) (hla : la.length = d + 1) (hlb : lb.length = d + 1) (hd : d ≤ 1000000) : AFn Try.prog 23 [.agg [.int .i64 m, .sl false 2 (intL la)], .agg [.int .i64 m, .sl false 2 (intL lb)]] (.agg [.int .i64 m, .sl true 2 (intL (timesL m la lb d))]) := by
  refine AFn.of' ttOk (by decide) Try.func23 Try.ntmps23 (by rw [Try.results23]) (by rfl) (by rfl) (by simp) (by decide) (by simp only [go_sem, Nat.reduceAdd, ↓reduceIte]; rfl) mixed (fun C hP hM hC => ?_)
  have hm0 : m ≠ 0 := by omega
  (repeat (first | ((with_reducible refine rgn_cons rfl (fun K hK => ?_)); simp only [go_sem, seval, ↓reduceIte, decide_true, decide_false]; (first | refine hK _ _ _ (by simp only [go_sem, Nat.reduceEqDiff, ↓reduceIte]; rfl) ?_ | refine ⟨_, c_impl_Series_degree m la (by omega), hK _ _ _ (by simp only [go_sem, Nat.reduceEqDiff, ↓reduceIte]; rfl) ?_⟩ | refine ⟨_, c_impl_zero m ((la.length : Int) - 1) (d + 1) (by omega) (by omega), hK _ _ _ (by simp only [go_sem, Nat.reduceEqDiff, ↓reduceIte]; rfl) ?_⟩); clear hK; clear K) | (with_reducible first | refine rgn_nil (by first | trivial | kernel_rfl) ?_ | refine AWP.seq ?_ | refine tX hC hP (by kernel_rfl) ?_ | refine aX hC hM hP (by kernel_rfl) ?_ | refine AWP.skip ?_ | refine AWP.label ?_ | refine AWP.exit ?_ | refine AWP.block ?_ | refine cTa ?_ | refine cFa ?_) | simp only [qS, Nat.reduceEqDiff, ↓reduceIte]))
  refine AWP.loop (fun i : Nat => [(18, ⟨0, .val (.int .i64 i)⟩), (17, ⟨0, .val (.int .i64 (d + 1 : Nat))⟩), (16, ⟨0, .val (.sl false 2 (intL la))⟩), (5, ⟨2, .own (.box 36 (.agg [.int .i64 m, .sl true 2 (intL (tab (d + 1) (pr (at' la) (at' lb) m i)))]))⟩), (2, ⟨1, .own (.box 36 (.agg [.int .i64 m, .sl false 2 (intL la)]))⟩), (3, ⟨1, .own (.box 36 (.agg [.int .i64 m, .sl false 2 (intL lb)]))⟩), (4, ⟨1, .own (.box 36 (.agg [.int .i64 0, .nil]))⟩)]) (fun i => i ≤ d + 1) (fun i => d + 1 - i) 0 (Nat.zero_le _) (fun i => rfl) ?_ (fun i hi => ?_)
  · have e : tab (d + 1) (pr (at' la) (at' lb) m 0) = tab (d + 1) (fun _ => 0) := tab_congr fun j _ => pr_zero _ _ _ _
    simp [Sub, lk, e, hla]
  · by_cases hc : i < d + 1
    · have hI1 : ((i : Int) < ((d + 1 : Nat) : Int)) := by omega
      have hx := at_bound ha hm i
      have e0 : tab (d + 1) (pr (at' la) (at' lb) m i) = tab (d + 1) (row (at' la) (at' lb) m i 0) := tab_congr fun j _ => (row_zero _ _ _ _ _).symm
      (repeat (first | ((with_reducible refine rgn_cons rfl (fun K hK => ?_)); simp only [go_sem, seval, ↓reduceIte, decide_true, decide_false, hI1, hla, hlb, intL_getD la i (by omega), show la.getD i 0 = at' la i from rfl, Int.toNat_natCast, Int.natCast_nonneg, wid (((d + 1 : Nat) : Int) - i) (by omega) (by omega), show (0 : Int) ≤ ((d + 1 : Nat) : Int) - i by omega, show ((d + 1 : Nat) : Int) - i ≤ ((d + 1 : Nat) : Int) by omega, List.drop_zero, show (((d + 1 : Nat) : Int) - i).toNat = d + 1 - i by omega, show (intL lb).take (d + 1 - i) = intL (lb.take (d + 1 - i)) by simp [intL], List.length_take, Nat.min_eq_left (show d + 1 - i ≤ d + 1 by omega)]; (refine hK _ _ _ (by simp only [go_sem, Nat.reduceEqDiff, ↓reduceIte]; rfl) ?_); clear hK; clear K) | (with_reducible first | refine rgn_nil (by first | trivial | kernel_rfl) ?_ | refine AWP.seq ?_ | refine tX hC hP (by kernel_rfl) ?_ | refine aX hC hM hP (by kernel_rfl) ?_ | refine AWP.skip ?_ | refine AWP.label ?_ | refine AWP.exit ?_ | refine AWP.block ?_ | refine cTa ?_ | refine cFa ?_) | simp only [qS, Nat.reduceEqDiff, ↓reduceIte]))
      refine AWP.loop (fun k : Nat => [(32, ⟨0, .val (.int .i64 k)⟩), (31, ⟨0, .val (.int .i64 (d + 1 - i : Nat))⟩), (30, ⟨0, .val (.sl false 2 (intL (lb.take (d + 1 - i))))⟩), (6, ⟨0, .val (.int .i64 i)⟩), (7, ⟨0, .val (.int .i64 (at' la i))⟩), (18, ⟨0, .val (.int .i64 i)⟩), (17, ⟨0, .val (.int .i64 (d + 1 : Nat))⟩), (16, ⟨0, .val (.sl false 2 (intL la))⟩), (5, ⟨2, .own (.box 36 (.agg [.int .i64 m, .sl true 2 (intL (tab (d + 1) (row (at' la) (at' lb) m i k)))]))⟩), (2, ⟨1, .own (.box 36 (.agg [.int .i64 m, .sl false 2 (intL la)]))⟩), (3, ⟨1, .own (.box 36 (.agg [.int .i64 m, .sl false 2 (intL lb)]))⟩), (4, ⟨1, .own (.box 36 (.agg [.int .i64 0, .nil]))⟩)]) (fun k => k ≤ d + 1 - i) (fun k => d + 1 - i - k) 0 (Nat.zero_le _) (fun i => rfl) ?_ (fun k hk => ?_)
      · simp [Sub, lk, ← e0]
      · by_cases hk2 : k < d + 1 - i
        · have hy := at_bound hb hm k
          have hp := pr_bound (at' la) (at' lb) hm i (i + k)
          have hz := emod_b (at' la i * at' lb k) m hm
          have hlen : i + k < (tab (d + 1) (row (at' la) (at' lb) m i k)).length := by rw [tab_length]; omega
          have g1 : (tab (d + 1) (row (at' la) (at' lb) m i k)).getD (i + k) 0 = pr (at' la) (at' lb) m i (i + k) := by rw [tab_getD (by omega), row_at]
          have g2 : (lb.take (d + 1 - i)).getD k 0 = at' lb k := by simp [at', List.getD_eq_getElem?_getD, List.getElem?_take_of_lt hk2]
          have g3 : (pr (at' la) (at' lb) m i (i + k) + at' la i * at' lb k % m) % m = pr (at' la) (at' lb) m (i + 1) (i + k) := by rw [Int.add_emod_emod, pr_succ]
          have hlen2 : k < (lb.take (d + 1 - i)).length := by rw [List.length_take]; omega
          have hK1 : ((k : Int) < ((d + 1 - i : Nat) : Int)) := by omega
          (repeat (first | ((with_reducible refine rgn_cons rfl (fun K hK => ?_)); simp only [go_sem, seval, ↓reduceIte, decide_true, decide_false, hK1, wid ((i : Int) + k) (by omega) (by omega), intL_getD _ k hlen2, List.length_take, hlb, Nat.min_eq_left (show d + 1 - i ≤ d + 1 by omega), intL_getD _ _ hlen, g1, g2, g3, Int.toNat_natCast, Int.natCast_nonneg, show ((i : Int) + k).toNat = i + k by omega, show (0 : Int) ≤ (i : Int) + k by omega, tab_length, show (i : Int) + k < ((d + 1 : Nat) : Int) by omega, wid (pr (at' la) (at' lb) m i (i + k) + at' la i * at' lb k % m) (by omega) (by omega), tm (pr (at' la) (at' lb) m i (i + k) + at' la i * at' lb k % m) m (by omega), hm0, Nat.mul_one, intL_get _ _ hlen, sizeL_take _ _ (Nat.le_of_lt hlen), intL_modify, tab_set' (fun n _ => row_set (at' la) (at' lb) m i k n), wid ((k : Int) + 1) (by omega) (by omega)]; (first | refine hK _ _ _ (by simp only [go_sem, Nat.reduceEqDiff, ↓reduceIte]; rfl) ?_ | refine ⟨_, c_impl_mul m (at' la i) (at' lb k) hm (by omega) hx.1 hx.2 hy.1 hy.2, hK _ _ _ (by simp only [go_sem, Nat.reduceEqDiff, ↓reduceIte]; rfl) ?_⟩); clear hK; clear K) | (with_reducible first | refine rgn_nil (by first | trivial | kernel_rfl) ?_ | refine AWP.seq ?_ | refine tX hC hP (by kernel_rfl) ?_ | refine aX hC hM hP (by kernel_rfl) ?_ | refine AWP.skip ?_ | refine AWP.label ?_ | refine AWP.exit ?_ | refine AWP.block ?_ | refine cTa ?_ | refine cFa ?_) | simp only [qS, Nat.reduceEqDiff, ↓reduceIte]))
          exact ⟨k + 1, by omega, by omega, by simp [Sub, lk]⟩
        · have hE : tab (d + 1) (row (at' la) (at' lb) m i k) = tab (d + 1) (pr (at' la) (at' lb) m (i + 1)) := tab_congr fun n hn => row_end fun hn2 => by omega
          have hK1 : ¬ ((k : Int) < ((d + 1 - i : Nat) : Int)) := by omega
          (repeat (first | ((with_reducible refine rgn_cons rfl (fun K hK => ?_)); simp only [go_sem, seval, ↓reduceIte, decide_true, decide_false, hK1, decide_false, wid ((i : Int) + 1) (by omega) (by omega)]; (refine hK _ _ _ (by simp only [go_sem, Nat.reduceEqDiff, ↓reduceIte]; rfl) ?_); clear hK; clear K) | (with_reducible first | refine rgn_nil (by first | trivial | kernel_rfl) ?_ | refine AWP.seq ?_ | refine tX hC hP (by kernel_rfl) ?_ | refine aX hC hM hP (by kernel_rfl) ?_ | refine AWP.skip ?_ | refine AWP.label ?_ | refine AWP.exit ?_ | refine AWP.block ?_ | refine cTa ?_ | refine cFa ?_) | simp only [qS, Nat.reduceEqDiff, ↓reduceIte]))
          exact ⟨i + 1, by omega, by omega, by simp [Sub, lk, hE]⟩
    · have hE : tab (d + 1) (pr (at' la) (at' lb) m i) = timesL m la lb d := tab_congr fun n hn => pr_end fun j hj hj2 => at_out (by omega)
      have hI1 : ¬ ((i : Int) < ((d + 1 : Nat) : Int)) := by omega
      (repeat (first | ((with_reducible refine rgn_cons rfl (fun K hK => ?_)); simp only [go_sem, seval, ↓reduceIte, decide_true, decide_false, hI1, decide_false]; (refine hK _ _ _ (by simp only [go_sem, Nat.reduceEqDiff, ↓reduceIte]; rfl) ?_); clear hK; clear K) | (with_reducible first | refine rgn_nil (by first | trivial | kernel_rfl) ?_ | refine AWP.seq ?_ | refine tX hC hP (by kernel_rfl) ?_ | refine aX hC hM hP (by kernel_rfl) ?_ | refine AWP.skip ?_ | refine AWP.label ?_ | refine AWP.exit ?_ | refine AWP.block ?_ | refine cTa ?_ | refine cFa ?_) | simp only [qS, Nat.reduceEqDiff, ↓reduceIte]))
      (refine AWP.ret ?_; refine retOk1 (by simp only [go_sem, seval, ↓reduceIte, decide_true, decide_false]; rfl) ?_)
      rw [← hE]
-- Inverses modulo a number; greatest common divisors.
set_option maxHeartbeats 1000000 in
theorem c_impl_inverse (m a : Int) (hm : 0 < m) (hm2 : m ≤ 1000000000) : AFn Try.prog 78 [.int .i64 m, .int .i64 a] (.int .i64 (invL m a)) := by
  refine AFn.of' ttOk (by decide) Try.func78 Try.ntmps78 (by rw [Try.results78]) (by rfl) (by rfl) (by simp) (by decide) (by simp only [go_sem, Nat.reduceAdd, ↓reduceIte]; rfl) mixed (fun C hP hM hC => ?_)
  (repeat (first | ((with_reducible refine rgn_cons rfl (fun K hK => ?_)); simp only [go_sem, seval, ↓reduceIte, decide_true, decide_false]; (first | refine hK _ _ _ (by simp only [go_sem, Nat.reduceEqDiff, ↓reduceIte]; rfl) ?_ | refine ⟨_, c_impl_mod a m hm (by omega), hK _ _ _ (by simp only [go_sem, Nat.reduceEqDiff, ↓reduceIte]; rfl) ?_⟩); clear hK; clear K) | (with_reducible first | refine rgn_nil (by first | trivial | kernel_rfl) ?_ | refine AWP.seq ?_ | refine tX hC hP (by kernel_rfl) ?_ | refine aX hC hM hP (by kernel_rfl) ?_ | refine AWP.skip ?_ | refine AWP.label ?_ | refine AWP.exit ?_ | refine AWP.block ?_ | refine cTa ?_ | refine cFa ?_) | simp only [qS, Nat.reduceEqDiff, ↓reduceIte]))
  refine AWP.loop (fun w : Int × Int × Int × Int => [(7, ⟨0, .val (.int .i64 w.1)⟩), (8, ⟨0, .val (.int .i64 w.2.1)⟩), (5, ⟨0, .val (.int .i64 w.2.2.1)⟩), (6, ⟨0, .val (.int .i64 w.2.2.2)⟩), (0, ⟨0, .val (.int .i64 m)⟩)]) (fun w => EuB m w.1 w.2.1 w.2.2.1 w.2.2.2 ∧ eu w.1 w.2.1 w.2.2.1 w.2.2.2 = eu m (a % m) 0 1) (fun w => w.2.1.toNat) (m, a % m, 0, 1) ⟨EuB_start hm, rfl⟩ (fun i => rfl) ?_ (fun w hw => ?_)
  · simp [Sub, lk]
  · obtain ⟨r, s, x, y⟩ := w
    obtain ⟨hB, hE⟩ := hw
    simp only at hB hE ⊢
    by_cases hs : 0 < s
    · obtain ⟨g1, g2, g3, g4, e, g5, g6, g7, g8⟩ := EuB_facts hB hs
      have hr := hB.1
      have td : r.tdiv s = r / s := Int.tdiv_eq_ediv_of_nonneg (by omega)
      (repeat (first | ((with_reducible refine rgn_cons rfl (fun K hK => ?_)); simp only [go_sem, seval, ↓reduceIte, decide_true, decide_false, show (s != 0) = true by simp; omega, show s ≠ 0 by omega, td, wid (r / s) (by omega) (by omega), wid (r / s * s) (by omega) (by omega), e, wid (r % s) (by have := emod_b r s hs; have := hB.2.2.2.1; omega) (by have := emod_b r s hs; have := hB.2.2.2.1; omega), wid (r / s * y) (by omega) (by omega), wid (x - r / s * y) (by omega) (by omega)]; (refine hK _ _ _ (by simp only [go_sem, Nat.reduceEqDiff, ↓reduceIte]; rfl) ?_); clear hK; clear K) | (with_reducible first | refine rgn_nil (by first | trivial | kernel_rfl) ?_ | refine AWP.seq ?_ | refine tX hC hP (by kernel_rfl) ?_ | refine aX hC hM hP (by kernel_rfl) ?_ | refine AWP.skip ?_ | refine AWP.label ?_ | refine AWP.exit ?_ | refine AWP.block ?_ | refine cTa ?_ | refine cFa ?_) | simp only [qS, Nat.reduceEqDiff, ↓reduceIte]))
      refine ⟨(s, r % s, y, x - r / s * y), ⟨EuB_step hB hs, by rw [← hE]; exact (eu_step hs).symm⟩, ?_, by simp [Sub, lk]⟩
      have := emod_b r s hs
      simp only
      omega
    · have hs0 : s = 0 := by have := hB.2.2.1; omega
      (repeat (first | ((with_reducible refine rgn_cons rfl (fun K hK => ?_)); simp only [go_sem, seval, ↓reduceIte, decide_true, decide_false, show (s != 0) = false by simp [hs0]]; (first | refine hK _ _ _ (by simp only [go_sem, Nat.reduceEqDiff, ↓reduceIte]; rfl) ?_ | refine ⟨_, c_impl_mod x m hm (by omega), hK _ _ _ (by simp only [go_sem, Nat.reduceEqDiff, ↓reduceIte]; rfl) ?_⟩); clear hK; clear K) | (with_reducible first | refine rgn_nil (by first | trivial | kernel_rfl) ?_ | refine AWP.seq ?_ | refine tX hC hP (by kernel_rfl) ?_ | refine aX hC hM hP (by kernel_rfl) ?_ | refine AWP.skip ?_ | refine AWP.label ?_ | refine AWP.exit ?_ | refine AWP.block ?_ | refine cTa ?_ | refine cFa ?_) | simp only [qS, Nat.reduceEqDiff, ↓reduceIte]))
      (refine AWP.ret ?_; refine retOk1 (by simp only [go_sem, seval, ↓reduceIte, decide_true, decide_false]; rfl) ?_)
      rw [eu_end hs] at hE
      rw [hE]; rfl
set_option maxHeartbeats 1000000 in
theorem c_impl_gcd (a b : Nat) (ha : a ≤ 4611686018427387904) (hb : b ≤ 4611686018427387904) : AFn Try.prog 32 [.int .i64 a, .int .i64 b] (.int .i64 (Nat.gcd a b)) := by
  refine AFn.of' ttOk (by decide) Try.func32 Try.ntmps32 (by rw [Try.results32]) (by rfl) (by rfl) (by simp) (by decide) (by simp only [go_sem, Nat.reduceAdd, ↓reduceIte]; rfl) mixed (fun C hP hM hC => ?_)
  (repeat (first | ((with_reducible refine rgn_cons rfl (fun K hK => ?_)); simp only [go_sem, seval, ↓reduceIte, decide_true, decide_false]; (refine hK _ _ _ (by simp only [go_sem, Nat.reduceEqDiff, ↓reduceIte]; rfl) ?_); clear hK; clear K) | (with_reducible first | refine rgn_nil (by first | trivial | kernel_rfl) ?_ | refine AWP.seq ?_ | refine tX hC hP (by kernel_rfl) ?_ | refine aX hC hM hP (by kernel_rfl) ?_ | refine AWP.skip ?_ | refine AWP.label ?_ | refine AWP.exit ?_ | refine AWP.block ?_ | refine cTa ?_ | refine cFa ?_) | simp only [qS, Nat.reduceEqDiff, ↓reduceIte]))
  refine AWP.loop (fun w : Nat × Nat => [(0, ⟨0, .val (.int .i64 w.1)⟩), (1, ⟨0, .val (.int .i64 w.2)⟩)]) (fun w => Nat.gcd w.1 w.2 = Nat.gcd a b ∧ w.1 ≤ 4611686018427387904 ∧ w.2 ≤ 4611686018427387904) (fun w => w.2) (a, b) ⟨rfl, ha, hb⟩ (fun i => rfl) ?_ (fun w hw => ?_)
  · simp [Sub, lk]
  · obtain ⟨x, y⟩ := w
    simp only at hw ⊢
    by_cases hs : 0 < y
    · have e : (x : Int).tmod y = ((x % y : Nat) : Int) := by rw [tm _ _ (by omega)]; simp
      (repeat (first | ((with_reducible refine rgn_cons rfl (fun K hK => ?_)); simp only [go_sem, seval, ↓reduceIte, decide_true, decide_false, show ((y : Int) != 0) = true by simp; omega, show (y : Int) ≠ 0 by omega, e]; (refine hK _ _ _ (by simp only [go_sem, Nat.reduceEqDiff, ↓reduceIte]; rfl) ?_); clear hK; clear K) | (with_reducible first | refine rgn_nil (by first | trivial | kernel_rfl) ?_ | refine AWP.seq ?_ | refine tX hC hP (by kernel_rfl) ?_ | refine aX hC hM hP (by kernel_rfl) ?_ | refine AWP.skip ?_ | refine AWP.label ?_ | refine AWP.exit ?_ | refine AWP.block ?_ | refine cTa ?_ | refine cFa ?_) | simp only [qS, Nat.reduceEqDiff, ↓reduceIte]))
      have h1 := Nat.mod_lt x hs
      exact ⟨(y, x % y), ⟨by rw [← hw.1]; exact gcd_step x y, by simp only; omega, by simp only; omega⟩, h1, by simp [Sub, lk]⟩
    · have hy : y = 0 := by omega
      subst hy
      (repeat (first | ((with_reducible refine rgn_cons rfl (fun K hK => ?_)); simp only [go_sem, seval, ↓reduceIte, decide_true, decide_false, wid (0 - (x : Int)) (by omega) (by omega), show ¬ (0 - (x : Int) > (x : Int)) by omega, show ¬ ((x : Int) < 0 - (x : Int)) by omega]; (refine hK _ _ _ (by simp only [go_sem, Nat.reduceEqDiff, ↓reduceIte]; rfl) ?_); clear hK; clear K) | (with_reducible first | refine rgn_nil (by first | trivial | kernel_rfl) ?_ | refine AWP.seq ?_ | refine tX hC hP (by kernel_rfl) ?_ | refine aX hC hM hP (by kernel_rfl) ?_ | refine AWP.skip ?_ | refine AWP.label ?_ | refine AWP.exit ?_ | refine AWP.block ?_ | refine cTa ?_ | refine cFa ?_) | simp only [qS, Nat.reduceEqDiff, ↓reduceIte]))
      (refine AWP.ret ?_; refine retOk1 (by simp only [go_sem, seval, ↓reduceIte, decide_true, decide_false]; rfl) ?_)
      rw [← hw.1, Nat.gcd_zero_right]
-- Powers of numbers.
set_option maxHeartbeats 1000000 in
theorem c_impl_power (m a : Int) (k : Nat) (hm : 0 < m) (hm2 : m ≤ 10000) (ha : 0 ≤ a) (ha2 : a < m) (hk : k ≤ 1000000000000) : AFn Try.prog 34 [.int .i64 m, .int .i64 a, .int .i64 k] (.int .i64 (a ^ k % m)) := by
  refine AFn.of' ttOk (by decide) Try.func34 Try.ntmps34 (by rw [Try.results34]) (by rfl) (by rfl) (by simp) (by decide) (by simp only [go_sem, Nat.reduceAdd, ↓reduceIte]; rfl) mixed (fun C hP hM hC => ?_)
  have h1 := emod_b 1 m hm
  (repeat (first | ((with_reducible refine rgn_cons rfl (fun K hK => ?_)); simp only [go_sem, seval, ↓reduceIte, decide_true, decide_false, show m ≠ 0 by omega, tm 1 m (by omega)]; (refine hK _ _ _ (by simp only [go_sem, Nat.reduceEqDiff, ↓reduceIte]; rfl) ?_); clear hK; clear K) | (with_reducible first | refine rgn_nil (by first | trivial | kernel_rfl) ?_ | refine AWP.seq ?_ | refine tX hC hP (by kernel_rfl) ?_ | refine aX hC hM hP (by kernel_rfl) ?_ | refine AWP.skip ?_ | refine AWP.label ?_ | refine AWP.exit ?_ | refine AWP.block ?_ | refine cTa ?_ | refine cFa ?_) | simp only [qS, Nat.reduceEqDiff, ↓reduceIte]))
  refine AWP.loop (fun w : Nat × Int × Int => [(2, ⟨0, .val (.int .i64 w.1)⟩), (7, ⟨0, .val (.int .i64 w.2.1)⟩), (1, ⟨0, .val (.int .i64 w.2.2)⟩), (0, ⟨0, .val (.int .i64 m)⟩)]) (fun w => w.1 ≤ k ∧ (0 ≤ w.2.1 ∧ w.2.1 < m) ∧ (0 ≤ w.2.2 ∧ w.2.2 < m) ∧ w.2.1 * w.2.2 ^ w.1 % m = a ^ k % m) (fun w => w.1) (k, 1 % m, a) ⟨Nat.le_refl _, h1, ⟨ha, ha2⟩, by rw [mul_emod_l, Int.one_mul]⟩ (fun i => rfl) ?_ (fun w hw => ?_)
  · simp [Sub, lk]
  · obtain ⟨j, o, b⟩ := w
    simp only at hw ⊢
    obtain ⟨hj, ho, hb, hE⟩ := hw
    by_cases hs : 0 < j
    · have hs' : (0 : Int) < (j : Int) := by omega
      by_cases ho2 : j % 2 = 1
      · (repeat (first | ((with_reducible refine rgn_cons rfl (fun K hK => ?_)); simp only [go_sem, seval, ↓reduceIte, decide_true, decide_false, hs', nat_tmod2, nat_tdiv2, ho2, Int.cast_ofNat_Int, show (2 : Int) ≠ 0 by omega, wid ((j / 2 : Nat) : Int) (by omega) (by omega)]; (first | refine hK _ _ _ (by simp only [go_sem, Nat.reduceEqDiff, ↓reduceIte]; rfl) ?_ | refine ⟨_, c_impl_mul m o b hm (by omega) ho.1 ho.2 hb.1 hb.2, hK _ _ _ (by simp only [go_sem, Nat.reduceEqDiff, ↓reduceIte]; rfl) ?_⟩ | refine ⟨_, c_impl_mul m b b hm (by omega) hb.1 hb.2 hb.1 hb.2, hK _ _ _ (by simp only [go_sem, Nat.reduceEqDiff, ↓reduceIte]; rfl) ?_⟩); clear hK; clear K) | (with_reducible first | refine rgn_nil (by first | trivial | kernel_rfl) ?_ | refine AWP.seq ?_ | refine tX hC hP (by kernel_rfl) ?_ | refine aX hC hM hP (by kernel_rfl) ?_ | refine AWP.skip ?_ | refine AWP.label ?_ | refine AWP.exit ?_ | refine AWP.block ?_ | refine cTa ?_ | refine cFa ?_) | simp only [qS, Nat.reduceEqDiff, ↓reduceIte]))
        exact ⟨(j / 2, o * b % m, b * b % m), ⟨by simp only; omega, emod_b _ m hm, emod_b _ m hm, by rw [← hE]; exact pw_odd o b m j ho2⟩, by simp only; omega, by simp [Sub, lk]⟩
      · have ho3 : j % 2 = 0 := by omega
        (repeat (first | ((with_reducible refine rgn_cons rfl (fun K hK => ?_)); simp only [go_sem, seval, ↓reduceIte, decide_true, decide_false, hs', nat_tmod2, nat_tdiv2, ho3, Int.cast_ofNat_Int, Int.natCast_zero, show (2 : Int) ≠ 0 by omega, wid ((j / 2 : Nat) : Int) (by omega) (by omega)]; (first | refine hK _ _ _ (by simp only [go_sem, Nat.reduceEqDiff, ↓reduceIte]; rfl) ?_ | refine ⟨_, c_impl_mul m b b hm (by omega) hb.1 hb.2 hb.1 hb.2, hK _ _ _ (by simp only [go_sem, Nat.reduceEqDiff, ↓reduceIte]; rfl) ?_⟩); clear hK; clear K) | (with_reducible first | refine rgn_nil (by first | trivial | kernel_rfl) ?_ | refine AWP.seq ?_ | refine tX hC hP (by kernel_rfl) ?_ | refine aX hC hM hP (by kernel_rfl) ?_ | refine AWP.skip ?_ | refine AWP.label ?_ | refine AWP.exit ?_ | refine AWP.block ?_ | refine cTa ?_ | refine cFa ?_) | simp only [qS, Nat.reduceEqDiff, ↓reduceIte]))
        exact ⟨(j / 2, o, b * b % m), ⟨by simp only; omega, ho, emod_b _ m hm, by rw [← hE]; exact pw_even o b m j ho3⟩, by simp only; omega, by simp [Sub, lk]⟩
    · have hj0 : j = 0 := by omega
      subst hj0
      (repeat (first | ((with_reducible refine rgn_cons rfl (fun K hK => ?_)); simp only [go_sem, seval, ↓reduceIte, decide_true, decide_false, show ¬ (0 : Int) < ((0 : Nat) : Int) by omega, Int.natCast_zero, decide_false]; (refine hK _ _ _ (by simp only [go_sem, Nat.reduceEqDiff, ↓reduceIte]; rfl) ?_); clear hK; clear K) | (with_reducible first | refine rgn_nil (by first | trivial | kernel_rfl) ?_ | refine AWP.seq ?_ | refine tX hC hP (by kernel_rfl) ?_ | refine aX hC hM hP (by kernel_rfl) ?_ | refine AWP.skip ?_ | refine AWP.label ?_ | refine AWP.exit ?_ | refine AWP.block ?_ | refine cTa ?_ | refine cFa ?_) | simp only [qS, Nat.reduceEqDiff, ↓reduceIte]))
      (refine AWP.ret ?_; refine retOk1 (by simp only [go_sem, seval, ↓reduceIte, decide_true, decide_false]; rfl) ?_)
      rw [← hE, Int.pow_zero, Int.mul_one, Int.emod_eq_of_lt ho.1 ho.2]
-- Powers of series.
theorem oneL_of (d : Nat) : tab (d + 1) (fun j => if j = 0 then 1 else 0) = oneL d := rfl
end Go.Proofs.Ytahnnangdepkbaa
