/-
  The program's combinations of powers of a root of unity.
-/
import Derived.Test.YtahnnangdepkbaaJa
import Derived.Test.YtahnnangdepkbaaLcc
import Derived.Test.YtahnnangdepkbaaLd
import Derived.Test.YtahnnangdepkbaaKb
namespace Go.Proofs.Ytahnnangdepkbaa
open Go.RowKit
set_option linter.unusedSimpArgs false
set_option linter.unusedVariables false
set_option linter.unusedSectionVars false
set_option maxRecDepth 20000
-- The program's combinations of powers of a root of unity.
set_option maxHeartbeats 1000000 in
theorem c_impl_cyclotomic (n : Nat) (h1 : 2 ≤ n) (h2 : n ≤ 5) : AFn Try.prog 59 [.int .i64 n] (.sl true 2 (intL (ruL n))) := by
  refine AFn.of' ttOk (by decide) Try.func59 Try.ntmps59 (by rw [Try.results59]) (by rfl) (by rfl) (by simp) (by decide) (by simp only [go_sem, Nat.reduceAdd, ↓reduceIte]; rfl) mixed (fun C hP hM hC => ?_)
  obtain ⟨v, hv⟩ : ∃ v : Int, (n : Int) = v := ⟨_, rfl⟩
  rw [hv]
  rcases (show n = 2 ∨ n = 3 ∨ n = 4 ∨ n = 5 by omega) with rfl | rfl | rfl | rfl
  · (repeat (first | ((with_reducible refine rgn_cons rfl (fun K hK => ?_)); simp only [go_sem, seval, ↓reduceIte, decide_true, decide_false, show (v == 2) = true by rw [beq_iff_eq]; omega]; (refine hK _ _ _ (by simp only [go_sem, Nat.reduceEqDiff, ↓reduceIte]; rfl) ?_); clear hK; clear K) | (with_reducible first | refine rgn_nil (by first | trivial | kernel_rfl) ?_ | refine AWP.seq ?_ | refine tX hC hP (by kernel_rfl) ?_ | refine aX hC hM hP (by kernel_rfl) ?_ | refine AWP.skip ?_ | refine AWP.label ?_ | refine AWP.exit ?_ | refine AWP.block ?_ | refine cTa ?_ | refine cFa ?_) | simp only [qS, Nat.reduceEqDiff, ↓reduceIte]))
    (refine AWP.ret ?_; refine retOk1 (by simp only [go_sem, seval, ↓reduceIte, decide_true, decide_false]; rfl) ?_)
    rfl
  · (repeat (first | ((with_reducible refine rgn_cons rfl (fun K hK => ?_)); simp only [go_sem, seval, ↓reduceIte, decide_true, decide_false, show (v == 2) = false by rw [beq_eq_false_iff_ne]; omega, show (v == 3) = true by rw [beq_iff_eq]; omega]; (refine hK _ _ _ (by simp only [go_sem, Nat.reduceEqDiff, ↓reduceIte]; rfl) ?_); clear hK; clear K) | (with_reducible first | refine rgn_nil (by first | trivial | kernel_rfl) ?_ | refine AWP.seq ?_ | refine tX hC hP (by kernel_rfl) ?_ | refine aX hC hM hP (by kernel_rfl) ?_ | refine AWP.skip ?_ | refine AWP.label ?_ | refine AWP.exit ?_ | refine AWP.block ?_ | refine cTa ?_ | refine cFa ?_) | simp only [qS, Nat.reduceEqDiff, ↓reduceIte]))
    (refine AWP.ret ?_; refine retOk1 (by simp only [go_sem, seval, ↓reduceIte, decide_true, decide_false]; rfl) ?_)
    rfl
  · (repeat (first | ((with_reducible refine rgn_cons rfl (fun K hK => ?_)); simp only [go_sem, seval, ↓reduceIte, decide_true, decide_false, show (v == 2) = false by rw [beq_eq_false_iff_ne]; omega, show (v == 3) = false by rw [beq_eq_false_iff_ne]; omega, show (v == 4) = true by rw [beq_iff_eq]; omega]; (refine hK _ _ _ (by simp only [go_sem, Nat.reduceEqDiff, ↓reduceIte]; rfl) ?_); clear hK; clear K) | (with_reducible first | refine rgn_nil (by first | trivial | kernel_rfl) ?_ | refine AWP.seq ?_ | refine tX hC hP (by kernel_rfl) ?_ | refine aX hC hM hP (by kernel_rfl) ?_ | refine AWP.skip ?_ | refine AWP.label ?_ | refine AWP.exit ?_ | refine AWP.block ?_ | refine cTa ?_ | refine cFa ?_) | simp only [qS, Nat.reduceEqDiff, ↓reduceIte]))
    (refine AWP.ret ?_; refine retOk1 (by simp only [go_sem, seval, ↓reduceIte, decide_true, decide_false]; rfl) ?_)
    rfl
  · (repeat (first | ((with_reducible refine rgn_cons rfl (fun K hK => ?_)); simp only [go_sem, seval, ↓reduceIte, decide_true, decide_false, show (v == 2) = false by rw [beq_eq_false_iff_ne]; omega, show (v == 3) = false by rw [beq_eq_false_iff_ne]; omega, show (v == 4) = false by rw [beq_eq_false_iff_ne]; omega]; (refine hK _ _ _ (by simp only [go_sem, Nat.reduceEqDiff, ↓reduceIte]; rfl) ?_); clear hK; clear K) | (with_reducible first | refine rgn_nil (by first | trivial | kernel_rfl) ?_ | refine AWP.seq ?_ | refine tX hC hP (by kernel_rfl) ?_ | refine aX hC hM hP (by kernel_rfl) ?_ | refine AWP.skip ?_ | refine AWP.label ?_ | refine AWP.exit ?_ | refine AWP.block ?_ | refine cTa ?_ | refine cFa ?_) | simp only [qS, Nat.reduceEqDiff, ↓reduceIte]))
    (refine AWP.ret ?_; refine retOk1 (by simp only [go_sem, seval, ↓reduceIte, decide_true, decide_false]; rfl) ?_)
    rfl
theorem nmW_set {k : Nat} {c : Int} : (tab k (fun _ => 0)).set 0 c = nmW k c := tab_set' fun j _ => rfl
set_option maxHeartbeats 1000000 in
theorem c_impl_rooted_number (m c : Int) (r : List Int) (hr : 0 < r.length) (hr2 : r.length ≤ 1000) : AFn Try.prog 60 [.agg [.int .i64 m, .sl false 2 (intL r)], .int .i64 c] (.sl true 2 (intL (nmW r.length c))) := by
  refine AFn.of' ttOk (by decide) Try.func60 Try.ntmps60 (by rw [Try.results60]) (by rfl) (by rfl) (by simp) (by decide) (by simp only [go_sem, Nat.reduceAdd, ↓reduceIte]; rfl) mixed (fun C hP hM hC => ?_)
  have h0 : 0 < (tab r.length (fun _ => 0)).length := by rw [tab_length]; exact hr
  (repeat (first | ((with_reducible refine rgn_cons rfl (fun K hK => ?_)); simp only [go_sem, seval, ↓reduceIte, decide_true, decide_false, Int.natCast_nonneg, Int.toNat_natCast, show (r.length : Int) ≤ 1099511627776 by omega, intL_replicate, tab_zero, tab_length, Int.le_refl, Int.toNat_zero, show (0 : Int) < (r.length : Int) by omega, intL_get _ _ h0, List.take_zero, Nat.zero_mul, intL_modify, nmW_set]; (refine hK _ _ _ (by simp only [go_sem, Nat.reduceEqDiff, ↓reduceIte]; rfl) ?_); clear hK; clear K) | (with_reducible first | refine rgn_nil (by first | trivial | kernel_rfl) ?_ | refine AWP.seq ?_ | refine tX hC hP (by kernel_rfl) ?_ | refine aX hC hM hP (by kernel_rfl) ?_ | refine AWP.skip ?_ | refine AWP.label ?_ | refine AWP.exit ?_ | refine AWP.block ?_ | refine cTa ?_ | refine cFa ?_) | simp only [qS, Nat.reduceEqDiff, ↓reduceIte]))
  (refine AWP.ret ?_; refine retOk1 (by simp only [go_sem, seval, ↓reduceIte, decide_true, decide_false]; rfl) ?_)
  rfl
theorem plb {c x : Int} (hc : 0 ≤ c) (hc2 : c ≤ 10000) (hx : -1 ≤ x) (hx2 : x ≤ 10000) : -10000 ≤ c * x ∧ c * x ≤ 100000000 := by
  by_cases h : 0 ≤ x
  · have h1 := Int.mul_nonneg hc h
    have h2 : c * x ≤ 10000 * 10000 := Int.mul_le_mul hc2 hx2 h (by omega)
    omega
  · have : x = -1 := by omega
    subst this
    omega
theorem c_impl_rooted_plus (m c : Int) (r a b : List Int) (k : Nat) (hm : 0 < m) (hm2 : m ≤ 10000) (ha : okW m k a) (hbl : b.length = k) (hb : ∀ x ∈ b, -1 ≤ x ∧ x ≤ 10000) (hc : 0 ≤ c) (hc2 : c ≤ 10000) (hk : k ≤ 1000) : AFn Try.prog (8000000 + 75) [.int .i64 1, .sl true 2 (intL a), .agg [.int .i64 m, .sl false 2 (intL r)], .sl false 2 (intL b), .int .i64 c] (.tup [.tup [], .sl true 2 (intL (plW m k a b c))]) := by
  refine AFn_x.2 (AFx.ofSlot' (jw := 1) ttOk Try.func75 Try.ntmps75 (by rw [Try.results75]) (by rfl) (by rfl) (by simp) (by simp) (by rw [intL_length, intL_length, (plW_ok hm k a b c).1, ha.1]) (by simp only [T.noF, go_sem]) rfl mixed (fun C hP hM hC => ?_))
  have e0 : a = tab k (fun j => if j < 0 then (at' a j + c * at' b j) % m else at' a j) := by
    rw [tab_congr (g := at' a) fun j _ => if_neg (by omega), ← ha.1]
    exact (tab_self a).symm
  rw [show intL a = intL (tab k (fun j => if j < 0 then (at' a j + c * at' b j) % m else at' a j)) from congrArg intL e0]
  (repeat (first | ((with_reducible refine rgn_cons rfl (fun K hK => ?_)); simp only [go_sem, seval, ↓reduceIte, decide_true, decide_false, hbl]; (refine hK _ _ _ (by simp only [go_sem, Nat.reduceEqDiff, ↓reduceIte]; rfl) ?_); clear hK; clear K) | (with_reducible first | refine rgn_nil (by first | trivial | kernel_rfl) ?_ | refine AWP.seq ?_ | refine tX hC hP (by kernel_rfl) ?_ | refine aX hC hM hP (by kernel_rfl) ?_ | refine AWP.skip ?_ | refine AWP.label ?_ | refine AWP.exit ?_ | refine AWP.block ?_ | refine cTa ?_ | refine cFa ?_) | simp only [qS, Nat.reduceEqDiff, ↓reduceIte]))
  refine AWP.loop (fun i : Nat => [(12, ⟨0, .val (.int .i64 i)⟩), (11, ⟨0, .val (.int .i64 k)⟩), (10, ⟨0, .val (.sl false 2 (intL b))⟩), (1, ⟨0, .own (.sl true 2 (intL (tab k (fun j => if j < i then (at' a j + c * at' b j) % m else at' a j))))⟩), (3, ⟨0, .val (.int .i64 c)⟩), (4, ⟨1, .own (.box 79 (.agg [.int .i64 m, .sl false 2 (intL r)]))⟩)]) (fun i => i ≤ k) (fun i => k - i) 0 (Nat.zero_le _) (fun i => rfl) ?_ (fun i hi => ?_)
  · simp [Sub, lk]
  · by_cases hlt : i < k
    · have h1 := at_bound ha.2 hm i
      have h2 : -1 ≤ at' b i ∧ at' b i ≤ 10000 := by
        rw [at', List.getD_eq_getElem?_getD, List.getElem?_eq_getElem (by omega)]
        exact hb _ (List.getElem_mem _)
      have h3 := plb hc hc2 h2.1 h2.2
      have hlen : i < (tab k (fun j => if j < i then (at' a j + c * at' b j) % m else at' a j)).length := by rw [tab_length]; exact hlt
      have g1 : (tab k (fun j => if j < i then (at' a j + c * at' b j) % m else at' a j)).getD i 0 = at' a i := by
        rw [tab_getD hlt, if_neg (by omega)]
      have hM1 := c_impl_mod (at' a i + c * at' b i) m hm (by omega)
      have hst : (tab k (fun j => if j < i then (at' a j + c * at' b j) % m else at' a j)).set i ((at' a i + c * at' b i) % m) = tab k (fun j => if j < i + 1 then (at' a j + c * at' b j) % m else at' a j) := tab_set' fun j _ => by
        by_cases e : j = i
        · subst e; simp
        · simp only [if_neg e]
          by_cases e2 : j < i
          · rw [if_pos e2, if_pos (by omega)]
          · rw [if_neg e2, if_neg (by omega)]
      (repeat (first | ((with_reducible refine rgn_cons rfl (fun K hK => ?_)); simp only [go_sem, seval, ↓reduceIte, decide_true, decide_false, show (i : Int) < (k : Int) by omega, decide_true, hbl, intL_getD b i (by omega), show b.getD i 0 = at' b i from rfl, Int.toNat_natCast, Int.natCast_nonneg, tab_length, intL_get _ _ hlen, sizeL_take _ _ (Nat.le_of_lt hlen), Nat.mul_one, g1, wid (c * at' b i) (by omega) (by omega), wid (at' a i + c * at' b i) (by omega) (by omega), intL_modify, hst, wid ((i : Int) + 1) (by omega) (by omega)]; (first | refine hK _ _ _ (by simp only [go_sem, Nat.reduceEqDiff, ↓reduceIte]; rfl) ?_ | refine ⟨_, hM1, hK _ _ _ (by simp only [go_sem, Nat.reduceEqDiff, ↓reduceIte]; rfl) ?_⟩); clear hK; clear K) | (with_reducible first | refine rgn_nil (by first | trivial | kernel_rfl) ?_ | refine AWP.seq ?_ | refine tX hC hP (by kernel_rfl) ?_ | refine aX hC hM hP (by kernel_rfl) ?_ | refine AWP.skip ?_ | refine AWP.label ?_ | refine AWP.exit ?_ | refine AWP.block ?_ | refine cTa ?_ | refine cFa ?_) | simp only [qS, Nat.reduceEqDiff, ↓reduceIte]))
      exact ⟨i + 1, hlt, by omega, by simp [Sub, lk]⟩
    · (repeat (first | ((with_reducible refine rgn_cons rfl (fun K hK => ?_)); simp only [go_sem, seval, ↓reduceIte, decide_true, decide_false, show ¬ (i : Int) < (k : Int) by omega, decide_false]; (refine hK _ _ _ (by simp only [go_sem, Nat.reduceEqDiff, ↓reduceIte]; rfl) ?_); clear hK; clear K) | (with_reducible first | refine rgn_nil (by first | trivial | kernel_rfl) ?_ | refine AWP.seq ?_ | refine tX hC hP (by kernel_rfl) ?_ | refine aX hC hM hP (by kernel_rfl) ?_ | refine AWP.skip ?_ | refine AWP.label ?_ | refine AWP.exit ?_ | refine AWP.block ?_ | refine cTa ?_ | refine cFa ?_) | simp only [qS, Nat.reduceEqDiff, ↓reduceIte]))
      refine endQS_nor ?_
      rw [show plW m k a b c = tab k (fun j => if j < i then (at' a j + c * at' b j) % m else at' a j) from tab_congr fun j hj => by rw [if_pos (by omega)]]
      rfl
theorem okW.low {m : Int} {k : Nat} {l : List Int} (h : okW m k l) (hm2 : m ≤ 10000) : ∀ x ∈ l, -1 ≤ x ∧ x ≤ 10000 := fun x hx => by have := h.2 x hx; omega
theorem shW_eq {k : Nat} {a : List Int} (ha : a.length = k) (hk : 0 < k) : (0 : Int) :: a.take (k - 1) = shW k a := by
  obtain ⟨j, rfl⟩ : ∃ j, k = j + 1 := ⟨k - 1, by omega⟩
  rw [shW]
  apply List.ext_getElem
  · simp [tab]; omega
  intro i h1 h2
  cases i with
  | zero => simp [tab]
  | succ i =>
    simp only [tab, List.getElem_cons_succ, List.getElem_take, List.getElem_map, List.getElem_range, at', List.getD_eq_getElem?_getD]
    simp
    rw [List.getElem?_eq_getElem (by simp [tab] at h2; omega)]
    rfl
theorem intL_scW (l : List Int) : (intL l).all T.scalar = true := by
  simp [intL, T.scalar]
theorem intL_takeW (l : List Int) (k : Nat) : (intL l).take k = intL (l.take k) := by simp [intL]
set_option maxHeartbeats 1000000 in
theorem c_impl_rooted_turned (m : Int) (r a : List Int) (hm : 0 < m) (hm2 : m ≤ 10000) (hr : 0 < r.length) (hr2 : r.length ≤ 1000) (hrb : ∀ x ∈ r, -1 ≤ x ∧ x ≤ 10000) (ha : okW m r.length a) : AFn Try.prog 63 [.agg [.int .i64 m, .sl false 2 (intL r)], .sl false 2 (intL a)] (.sl true 2 (intL (tuW m r.length r a))) := by
  refine AFn.of' ttOk (by decide) Try.func63 Try.ntmps63 (by rw [Try.results63]) (by rfl) (by rfl) (by simp) (by decide) (by simp only [go_sem, Nat.reduceAdd, ↓reduceIte]; rfl) mixed (fun C hP hM hC => ?_)
  have h1 := at_bound ha.2 hm (r.length - 1)
  have hP1 := c_impl_rooted_plus m (at' a (r.length - 1)) r (shW r.length a) r r.length hm hm2 (shW_ok hm ha) rfl hrb h1.1 (by omega) hr2
  have e1 : [T.int .i64 0] ++ intL (a.take (r.length - 1)) = intL (shW r.length a) := by rw [← shW_eq ha.1 hr]; rfl
  have w1 : IntKind.i64.wrap ((r.length : Int) - 1) = ((r.length - 1 : Nat) : Int) := by rw [wid _ (by omega) (by omega)]; omega
  (repeat (first | ((with_reducible refine rgn_cons rfl (fun K hK => ?_)); simp only [go_sem, seval, ↓reduceIte, decide_true, decide_false, w1, Int.natCast_nonneg, Int.toNat_natCast, ha.1, show ((r.length - 1 : Nat) : Int) ≤ (r.length : Int) by omega, intL_takeW, e1, show (a.take (r.length - 1)).length = r.length - 1 by rw [List.length_take, ha.1]; omega, show 1 + (r.length - 1) ≤ 1099511627776 by omega, show (1 + (r.length - 1)) * 8 ≤ 140737488355328 by omega, intL_plain, show ((r.length - 1 : Nat) : Int) < (r.length : Int) by omega, intL_getD a (r.length - 1) (by rw [ha.1]; omega), show a.getD (r.length - 1) 0 = at' a (r.length - 1) from rfl]; (first | refine hK _ _ _ (by simp only [go_sem, Nat.reduceEqDiff, ↓reduceIte]; rfl) ?_ | refine ⟨_, hP1, hK _ _ _ (by simp only [go_sem, Nat.reduceEqDiff, ↓reduceIte]; rfl) ?_⟩); clear hK; clear K) | (with_reducible first | refine rgn_nil (by first | trivial | kernel_rfl) ?_ | refine AWP.seq ?_ | refine tX hC hP (by kernel_rfl) ?_ | refine aX hC hM hP (by kernel_rfl) ?_ | refine AWP.skip ?_ | refine AWP.label ?_ | refine AWP.exit ?_ | refine AWP.block ?_ | refine cTa ?_ | refine cFa ?_) | simp only [qS, Nat.reduceEqDiff, ↓reduceIte]))
  (refine AWP.ret ?_; refine retOk1 (by simp only [go_sem, seval, ↓reduceIte, decide_true, decide_false]; rfl) ?_)
  rfl
-- Products of combinations and of rows of them.
theorem nmW_zero (k : Nat) : tab k (fun _ => 0) = nmW k 0 := tab_congr fun j _ => by simp
theorem ruL_low (n : Nat) : ∀ x ∈ ruL n, -1 ≤ x ∧ x ≤ 10000 := by
  intro x hx
  unfold ruL at hx
  split at hx
  · simp at hx; omega
  · split at hx
    · simp at hx; omega
    · split at hx <;> simp at hx <;> omega
set_option maxHeartbeats 2000000 in
theorem c_impl_rooted_times (m : Int) (r a b : List Int) (hm : 0 < m) (hm2 : m ≤ 10000) (hr : 0 < r.length) (hr2 : r.length ≤ 1000) (hrb : ∀ x ∈ r, -1 ≤ x ∧ x ≤ 10000) (ha : okW m r.length a) (hb : okW m r.length b) : AFn Try.prog 61 [.agg [.int .i64 m, .sl false 2 (intL r)], .sl false 2 (intL a), .sl false 2 (intL b)] (.sl true 2 (intL (tmW m r.length r a b))) := by
  refine AFn.of' ttOk (by decide) Try.func61 Try.ntmps61 (by rw [Try.results61]) (by rfl) (by rfl) (by simp) (by decide) (by simp only [go_sem, Nat.reduceAdd, ↓reduceIte]; rfl) mixed (fun C hP hM hC => ?_)
  (repeat (first | ((with_reducible refine rgn_cons rfl (fun K hK => ?_)); simp only [go_sem, seval, ↓reduceIte, decide_true, decide_false, Int.natCast_nonneg, Int.toNat_natCast, show (r.length : Int) ≤ 1099511627776 by omega, intL_replicate, tab_zero, nmW_zero, List.nil_append, ha.1, hb.1, Nat.zero_add, List.length_nil, show r.length ≤ 1099511627776 by omega, show r.length * 8 ≤ 140737488355328 by omega, intL_plain]; (refine hK _ _ _ (by simp only [go_sem, Nat.reduceEqDiff, ↓reduceIte]; rfl) ?_); clear hK; clear K) | (with_reducible first | refine rgn_nil (by first | trivial | kernel_rfl) ?_ | refine AWP.seq ?_ | refine tX hC hP (by kernel_rfl) ?_ | refine aX hC hM hP (by kernel_rfl) ?_ | refine AWP.skip ?_ | refine AWP.label ?_ | refine AWP.exit ?_ | refine AWP.block ?_ | refine cTa ?_ | refine cFa ?_) | simp only [qS, Nat.reduceEqDiff, ↓reduceIte]))
  refine AWP.loop (fun w : Nat × Nat => [(20, ⟨0, .val (.int .i64 w.1)⟩), (19, ⟨0, .val (.int .i64 r.length)⟩), (18, ⟨0, .val (.sl false 2 (intL a))⟩), (7, ⟨1, .own (.sl true 2 (intL (tmN m r.length r a b w.1)))⟩), (8, ⟨w.2, .own (.sl true 2 (intL (tuN m r.length r b w.1)))⟩), (3, ⟨1, .own (.box 79 (.agg [.int .i64 m, .sl false 2 (intL r)]))⟩)]) (fun w => w.1 ≤ r.length) (fun w => r.length - w.1) (0, 1) (Nat.zero_le _) (fun i => rfl) ?_ (fun w hw => ?_)
  · simp [Sub, lk, tmN, tuN]
  · obtain ⟨i, v⟩ := w
    simp only at hw ⊢
    by_cases hlt : i < r.length
    · have hx := at_bound ha.2 hm i
      have hs := tuN_ok hm r hb i
      have hP1 := c_impl_rooted_plus m (at' a i) r (tmN m r.length r a b i) (tuN m r.length r b i) r.length hm hm2 (tmN_ok hm _ _ _ _ _) hs.1 (hs.low hm2) hx.1 (by omega) hr2
      have hT := c_impl_rooted_turned m r (tuN m r.length r b i) hm hm2 hr hr2 hrb hs
      (repeat (first | ((with_reducible refine rgn_cons rfl (fun K hK => ?_)); simp only [go_sem, seval, ↓reduceIte, decide_true, decide_false, show (i : Int) < (r.length : Int) by omega, decide_true, ha.1, intL_getD a i (by rw [ha.1]; exact hlt), show a.getD i 0 = at' a i from rfl, Int.toNat_natCast, Int.natCast_nonneg, wid ((i : Int) + 1) (by omega) (by omega)]; (first | refine hK _ _ _ (by simp only [go_sem, Nat.reduceEqDiff, ↓reduceIte]; rfl) ?_ | refine ⟨_, hP1, hK _ _ _ (by simp only [go_sem, Nat.reduceEqDiff, ↓reduceIte]; rfl) ?_⟩ | refine ⟨_, hT, hK _ _ _ (by simp only [go_sem, Nat.reduceEqDiff, ↓reduceIte]; rfl) ?_⟩); clear hK; clear K) | (with_reducible first | refine rgn_nil (by first | trivial | kernel_rfl) ?_ | refine AWP.seq ?_ | refine tX hC hP (by kernel_rfl) ?_ | refine aX hC hM hP (by kernel_rfl) ?_ | refine AWP.skip ?_ | refine AWP.label ?_ | refine AWP.exit ?_ | refine AWP.block ?_ | refine cTa ?_ | refine cFa ?_) | simp only [qS, Nat.reduceEqDiff, ↓reduceIte]))
      exact ⟨(i + 1, v + 1), by simp only; omega, by simp only; omega, by simp [Sub, lk, tmN, tuN, intL_scW]⟩
    · have e : i = r.length := by omega
      subst e
      (repeat (first | ((with_reducible refine rgn_cons rfl (fun K hK => ?_)); simp only [go_sem, seval, ↓reduceIte, decide_true, decide_false, show ¬ (r.length : Int) < (r.length : Int) by omega, decide_false]; (refine hK _ _ _ (by simp only [go_sem, Nat.reduceEqDiff, ↓reduceIte]; rfl) ?_); clear hK; clear K) | (with_reducible first | refine rgn_nil (by first | trivial | kernel_rfl) ?_ | refine AWP.seq ?_ | refine tX hC hP (by kernel_rfl) ?_ | refine aX hC hM hP (by kernel_rfl) ?_ | refine AWP.skip ?_ | refine AWP.label ?_ | refine AWP.exit ?_ | refine AWP.block ?_ | refine cTa ?_ | refine cFa ?_) | simp only [qS, Nat.reduceEqDiff, ↓reduceIte]))
      (refine AWP.ret ?_; refine retOk1 (by simp only [go_sem, seval, ↓reduceIte, decide_true, decide_false]; rfl) ?_)
      rfl
/-- The rows of a product, on the way. -/
def prT (m : Int) (k : Nat) (r : List Int) (n : Nat) (A B : List (List Int)) (i j : Nat) : List (List Int) := tabL n (fun t => if t < i + j then prC m k r A B t (i + 1) else prC m k r A B t i)
theorem prT_zero (m : Int) (k : Nat) (r : List Int) (n : Nat) (A B : List (List Int)) : tabL n (fun _ => nmW k 0) = prT m k r n A B 0 0 := tabL_congr fun t _ => by rw [if_neg (by omega)]; rfl
theorem prT_at {m : Int} {k : Nat} {r : List Int} {n : Nat} {A B : List (List Int)} {i j : Nat} (h : i + j < n) : (prT m k r n A B i j).getD (i + j) [] = prC m k r A B (i + j) i := by rw [prT, tabL_getD h, if_neg (by omega)]
theorem prT_set {m : Int} {k : Nat} {r : List Int} {n : Nat} {A B : List (List Int)} {i j : Nat} : (prT m k r n A B i j).set (i + j) (plW m k (prC m k r A B (i + j) i) (tmW m k r (A.getD i []) (B.getD j [])) 1) = prT m k r n A B i (j + 1) := tabL_set fun t _ => by
  by_cases e : t = i + j
  · subst e
    rw [if_pos rfl, if_pos (by omega), prC, if_pos (by omega), show i + j - i = j by omega]
  · rw [if_neg e]
    by_cases h : t < i + j
    · rw [if_pos h, if_pos (by omega)]
    · rw [if_neg h, if_neg (by omega)]
theorem prT_next {m : Int} {k : Nat} {r : List Int} {n : Nat} {A B : List (List Int)} {i j : Nat} (h : n ≤ i + j) : prT m k r n A B i j = prT m k r n A B (i + 1) 0 := tabL_congr fun t ht => by
  rw [if_pos (by omega)]
  by_cases h2 : t < i + 1
  · rw [if_pos (by omega), prC_over (show t < i + 1 + 1 by omega), prC_over (show t < i + 1 by omega)]
  · rw [if_neg (by omega)]
theorem prT_end {m : Int} {k : Nat} {r : List Int} {n : Nat} {A B : List (List Int)} : prT m k r n A B n 0 = prW m k r n A B := tabL_congr fun t ht => by
  rw [if_pos (by omega), prC_over (show t < n + 1 by omega), prC_over (show t < n by omega)]
theorem prT_length (m : Int) (k : Nat) (r : List Int) (n : Nat) (A B : List (List Int)) (i j : Nat) : (prT m k r n A B i j).length = n := tabL_length _ _
theorem rowsF_take (L : List (List Int)) (k : Nat) : (rowsF L).take k = rowsF (L.take k) := by simp [rowsF]
theorem getD_take {L : List (List Int)} {k i : Nat} (h : i < k) : (L.take k).getD i [] = L.getD i [] := by
  rw [List.getD_eq_getElem?_getD, List.getD_eq_getElem?_getD, List.getElem?_take_of_lt h]
theorem rowsO_putW (L : List (List Int)) (i : Nat) (x : List Int) (f : T → T) (hf : f (.sl true 2 (intL (L.getD i []))) = (.sl true 2 (intL x))) (h : i < L.length) : (rowsO L).modify i f = rowsO (L.set i x) := by
  apply List.ext_getElem?
  intro a
  rw [List.getElem?_modify]
  by_cases e : i = a
  · subst e
    rw [rowsO_at _ _ h, rowsO_at _ _ (by rw [List.length_set]; exact h)]
    have e2 : (L.set i x).getD i [] = x := by
      rw [List.getD_eq_getElem?_getD, List.getElem?_set_self h]; rfl
    simp only [if_true, Option.map_eq_map, Option.map_some]
    rw [e2, hf]
  · simp only [rowsO, if_neg e, List.getElem?_map, List.getElem?_set_ne e, Option.map_eq_map]
    cases L[a]? <;> rfl
set_option maxHeartbeats 4000000 in
theorem c_impl_rooted_product (m : Int) (r : List Int) (A B : List (List Int)) (n : Nat) (hm : 1 < m) (hm2 : m ≤ 10000) (hr : 0 < r.length) (hr2 : r.length ≤ 1000) (hrb : ∀ x ∈ r, -1 ≤ x ∧ x ≤ 10000) (hA : okR m r.length n A) (hB : okR m r.length n B) (hn : n ≤ 1000) : AFn Try.prog 77 [.agg [.int .i64 m, .sl false 2 (intL r)], .sl false 76 (rowsF A), .sl false 76 (rowsF B)] (.sl true 76 (rowsO (prW m r.length r n A B))) := by
  refine AFn.of' ttOk (by decide) Try.func77 Try.ntmps77 (by rw [Try.results77]) (by rfl) (by rfl) (by simp) (by decide) (by simp only [go_sem, Nat.reduceAdd, ↓reduceIte]; rfl) mixed (fun C hP hM hC => ?_)
  have hN := c_impl_rooted_number m 0 r hr hr2
  (repeat (first | ((with_reducible refine rgn_cons rfl (fun K hK => ?_)); simp only [go_sem, seval, ↓reduceIte, decide_true, decide_false, rowsF_length, hA.1]; (refine hK _ _ _ (by simp only [go_sem, Nat.reduceEqDiff, ↓reduceIte]; rfl) ?_); clear hK; clear K) | (with_reducible first | refine rgn_nil (by first | trivial | kernel_rfl) ?_ | refine AWP.seq ?_ | refine tX hC hP (by kernel_rfl) ?_ | refine aX hC hM hP (by kernel_rfl) ?_ | refine AWP.skip ?_ | refine AWP.label ?_ | refine AWP.exit ?_ | refine AWP.block ?_ | refine cTa ?_ | refine cFa ?_) | simp only [qS, Nat.reduceEqDiff, ↓reduceIte]))
  refine AWP.loop (fun w : Nat × Nat => [(15, ⟨0, .val (.int .i64 w.1)⟩), (14, ⟨0, .val (.int .i64 n)⟩), (7, ⟨w.2, .own (.sl true 76 (rowsO (tabL w.1 (fun _ => nmW r.length 0))))⟩), (3, ⟨1, .own (.box 79 (.agg [.int .i64 m, .sl false 2 (intL r)]))⟩), (1, ⟨0, .val (.sl false 76 (rowsF A))⟩), (2, ⟨0, .val (.sl false 76 (rowsF B))⟩)]) (fun w => w.1 ≤ n) (fun w => n - w.1) (0, 1) (Nat.zero_le _) (fun i => rfl) ?_ (fun w hw => ?_)
  · simp [Sub, lk, tabL, rowsO]
  · obtain ⟨i, v⟩ := w
    simp only at hw ⊢
    by_cases hin : i < n
    · (repeat (first | ((with_reducible refine rgn_cons rfl (fun K hK => ?_)); simp only [go_sem, seval, ↓reduceIte, decide_true, decide_false, show (i : Int) < (n : Int) by omega, decide_true, rowsO_length, tabL_length, rowsO_snoc, tabL_snoc, show i + 1 ≤ 1099511627776 by omega, show (i + 1) * 24 ≤ 140737488355328 by omega, wid ((i : Int) + 1) (by omega) (by omega)]; (first | refine hK _ _ _ (by simp only [go_sem, Nat.reduceEqDiff, ↓reduceIte]; rfl) ?_ | refine ⟨_, hN, hK _ _ _ (by simp only [go_sem, Nat.reduceEqDiff, ↓reduceIte]; rfl) ?_⟩); clear hK; clear K) | (with_reducible first | refine rgn_nil (by first | trivial | kernel_rfl) ?_ | refine AWP.seq ?_ | refine tX hC hP (by kernel_rfl) ?_ | refine aX hC hM hP (by kernel_rfl) ?_ | refine AWP.skip ?_ | refine AWP.label ?_ | refine AWP.exit ?_ | refine AWP.block ?_ | refine cTa ?_ | refine cFa ?_) | simp only [qS, Nat.reduceEqDiff, ↓reduceIte]))
      exact ⟨(i + 1, v + 1), by simp only; omega, by simp only; omega, by simp [Sub, lk]⟩
    · have e : i = n := by omega
      subst e
      rw [prT_zero m r.length r i A B]
      (repeat (first | ((with_reducible refine rgn_cons rfl (fun K hK => ?_)); simp only [go_sem, seval, ↓reduceIte, decide_true, decide_false, show ¬ (i : Int) < (i : Int) by omega, decide_false, rowsF_length, hA.1]; (refine hK _ _ _ (by simp only [go_sem, Nat.reduceEqDiff, ↓reduceIte]; rfl) ?_); clear hK; clear K) | (with_reducible first | refine rgn_nil (by first | trivial | kernel_rfl) ?_ | refine AWP.seq ?_ | refine tX hC hP (by kernel_rfl) ?_ | refine aX hC hM hP (by kernel_rfl) ?_ | refine AWP.skip ?_ | refine AWP.label ?_ | refine AWP.exit ?_ | refine AWP.block ?_ | refine cTa ?_ | refine cFa ?_) | simp only [qS, Nat.reduceEqDiff, ↓reduceIte]))
      refine AWP.loop (fun w : Nat × Nat => [(25, ⟨0, .val (.int .i64 w.1)⟩), (24, ⟨0, .val (.int .i64 i)⟩), (23, ⟨0, .val (.sl false 76 (rowsF A))⟩), (7, ⟨w.2, .own (.sl true 76 (rowsO (prT m r.length r i A B w.1 0)))⟩), (3, ⟨1, .own (.box 79 (.agg [.int .i64 m, .sl false 2 (intL r)]))⟩), (2, ⟨0, .val (.sl false 76 (rowsF B))⟩)]) (fun w => w.1 ≤ i) (fun w => i - w.1) (0, v) (Nat.zero_le _) (fun i => rfl) ?_ (fun w hw => ?_)
      · simp [Sub, lk]
      · obtain ⟨x, v2⟩ := w
        simp only at hw ⊢
        by_cases hxi : x < i
        · (repeat (first | ((with_reducible refine rgn_cons rfl (fun K hK => ?_)); simp only [go_sem, seval, ↓reduceIte, decide_true, decide_false, show (x : Int) < (i : Int) by omega, decide_true, rowsF_length, hA.1, hB.1, rowsF_getD A x (by rw [hA.1]; exact hxi), Int.toNat_natCast, Int.natCast_nonneg, show IntKind.i64.wrap ((i : Int) - (x : Int)) = ((i - x : Nat) : Int) by rw [wid _ (by omega) (by omega)]; omega, show ((i - x : Nat) : Int) ≤ (i : Int) by omega, rowsF_take, List.length_take, show min (i - x) i = i - x by omega]; (refine hK _ _ _ (by simp only [go_sem, Nat.reduceEqDiff, ↓reduceIte]; rfl) ?_); clear hK; clear K) | (with_reducible first | refine rgn_nil (by first | trivial | kernel_rfl) ?_ | refine AWP.seq ?_ | refine tX hC hP (by kernel_rfl) ?_ | refine aX hC hM hP (by kernel_rfl) ?_ | refine AWP.skip ?_ | refine AWP.label ?_ | refine AWP.exit ?_ | refine AWP.block ?_ | refine cTa ?_ | refine cFa ?_) | simp only [qS, Nat.reduceEqDiff, ↓reduceIte]))
          refine AWP.loop (fun w : Nat × Nat => [(37, ⟨0, .val (.int .i64 w.1)⟩), (36, ⟨0, .val (.int .i64 (i - x : Nat))⟩), (35, ⟨0, .val (.sl false 76 (rowsF (B.take (i - x))))⟩), (8, ⟨0, .val (.int .i64 x)⟩), (9, ⟨0, .val (.sl false 2 (intL (A.getD x [])))⟩), (25, ⟨0, .val (.int .i64 x)⟩), (24, ⟨0, .val (.int .i64 i)⟩), (23, ⟨0, .val (.sl false 76 (rowsF A))⟩), (7, ⟨w.2, .own (.sl true 76 (rowsO (prT m r.length r i A B x w.1)))⟩), (3, ⟨1, .own (.box 79 (.agg [.int .i64 m, .sl false 2 (intL r)]))⟩), (2, ⟨0, .val (.sl false 76 (rowsF B))⟩)]) (fun w => w.1 ≤ i - x) (fun w => i - x - w.1) (0, v2) (Nat.zero_le _) (fun i => rfl) ?_ (fun w hw => ?_)
          · simp [Sub, lk]
          · obtain ⟨y, v3⟩ := w
            simp only at hw ⊢
            by_cases hy : y < i - x
            · have hAx := hA.at hxi
              have hBy := hB.at (show y < i by omega)
              have hT := c_impl_rooted_times m r (A.getD x []) (B.getD y []) (by omega) hm2 hr hr2 hrb hAx hBy
              have hw2 := tmW_ok (show 0 < m by omega) r.length r (A.getD x []) (B.getD y [])
              have hP1 := c_impl_rooted_plus m 1 r (prC m r.length r A B (x + y) x) (tmW m r.length r (A.getD x []) (B.getD y [])) r.length (by omega) hm2 (prC_ok (by omega) _ _ _ _ _ _) hw2.1 (hw2.low hm2) (by omega) (by omega) hr2
              have hlen : x + y < (prT m r.length r i A B x y).length := by rw [prT_length]; omega
              have hU := rowsO_putW (prT m r.length r i A B x y) (x + y) (plW m r.length (prC m r.length r A B (x + y) x) (tmW m r.length r (A.getD x []) (B.getD y [])) 1)
              rw [prT_set] at hU
              have hU := hU (fun _ => (.sl true 2 (intL (plW m r.length (prC m r.length r A B (x + y) x) (tmW m r.length r (A.getD x []) (B.getD y [])) 1)))) rfl hlen
              (repeat (first | ((with_reducible refine rgn_cons rfl (fun K hK => ?_)); simp only [go_sem, seval, ↓reduceIte, decide_true, decide_false, show (y : Int) < ((i - x : Nat) : Int) by omega, decide_true, rowsF_length, List.length_take, hB.1, show min (i - x) i = i - x by omega, rowsF_getD (B.take (i - x)) y (by rw [List.length_take, hB.1]; omega), getD_take (L := B) hy, Int.toNat_natCast, Int.natCast_nonneg, ← Int.natCast_add, wid ((x + y : Nat) : Int) (by omega) (by omega), rowsO_length, prT_length, show ((x + y : Nat) : Int) < (i : Int) by omega, rowsO_at _ _ hlen, rowsO_sizeT _ _ (Nat.le_of_lt hlen), Nat.mul_one, prT_at (show x + y < i by omega), wid ((y : Int) + 1) (by omega) (by omega)]; (first | refine hK _ _ _ (by simp only [go_sem, Nat.reduceEqDiff, ↓reduceIte]; rfl) ?_ | refine ⟨_, hT, hK _ _ _ (by simp only [go_sem, Nat.reduceEqDiff, ↓reduceIte]; rfl) ?_⟩ | refine ⟨_, hP1, hK _ _ _ (by simp only [go_sem, Nat.reduceEqDiff, ↓reduceIte]; rfl) ?_⟩); clear hK; clear K) | (with_reducible first | refine rgn_nil (by first | trivial | kernel_rfl) ?_ | refine AWP.seq ?_ | refine tX hC hP (by kernel_rfl) ?_ | refine aX hC hM hP (by kernel_rfl) ?_ | refine AWP.skip ?_ | refine AWP.label ?_ | refine AWP.exit ?_ | refine AWP.block ?_ | refine cTa ?_ | refine cFa ?_) | simp only [qS, Nat.reduceEqDiff, ↓reduceIte]))
              exact ⟨(y + 1, v3), by simp only; omega, by simp only; omega, by rw [hU]; simp [Sub, lk, intL_scW]⟩
            · (repeat (first | ((with_reducible refine rgn_cons rfl (fun K hK => ?_)); simp only [go_sem, seval, ↓reduceIte, decide_true, decide_false, show ¬ (y : Int) < ((i - x : Nat) : Int) by omega, decide_false, wid ((x : Int) + 1) (by omega) (by omega)]; (refine hK _ _ _ (by simp only [go_sem, Nat.reduceEqDiff, ↓reduceIte]; rfl) ?_); clear hK; clear K) | (with_reducible first | refine rgn_nil (by first | trivial | kernel_rfl) ?_ | refine AWP.seq ?_ | refine tX hC hP (by kernel_rfl) ?_ | refine aX hC hM hP (by kernel_rfl) ?_ | refine AWP.skip ?_ | refine AWP.label ?_ | refine AWP.exit ?_ | refine AWP.block ?_ | refine cTa ?_ | refine cFa ?_) | simp only [qS, Nat.reduceEqDiff, ↓reduceIte]))
              exact ⟨(x + 1, v3), by simp only; omega, by simp only; omega, by simp only [← prT_next (m := m) (k := r.length) (r := r) (A := A) (B := B) (show i ≤ x + y by omega)]; simp [Sub, lk]⟩
        · have e : x = i := by omega
          subst e
          (repeat (first | ((with_reducible refine rgn_cons rfl (fun K hK => ?_)); simp only [go_sem, seval, ↓reduceIte, decide_true, decide_false, show ¬ (x : Int) < (x : Int) by omega, decide_false]; (refine hK _ _ _ (by simp only [go_sem, Nat.reduceEqDiff, ↓reduceIte]; rfl) ?_); clear hK; clear K) | (with_reducible first | refine rgn_nil (by first | trivial | kernel_rfl) ?_ | refine AWP.seq ?_ | refine tX hC hP (by kernel_rfl) ?_ | refine aX hC hM hP (by kernel_rfl) ?_ | refine AWP.skip ?_ | refine AWP.label ?_ | refine AWP.exit ?_ | refine AWP.block ?_ | refine cTa ?_ | refine cFa ?_) | simp only [qS, Nat.reduceEqDiff, ↓reduceIte]))
          (refine AWP.ret ?_; refine retOk1 (by simp only [go_sem, seval, ↓reduceIte, decide_true, decide_false]; rfl) ?_)
          rw [prT_end]
end Go.Proofs.Ytahnnangdepkbaa
