/-
  Series of powers.
-/
import Derived.Test.YtccjfbfebgfgoaaLd
namespace Go.Proofs.Ytccjfbfebgfgoaa
open Go.RowKit
set_option linter.unusedSimpArgs false
set_option linter.unusedVariables false
set_option linter.unusedSectionVars false
set_option maxRecDepth 20000
-- Series of powers.
theorem c_impl_Series_constant (m : Int) (l : List Int) (c : Int) (hl : l.length ≤ 1000000) (h0 : 0 < l.length) (hm : 0 < m) (hm2 : m ≤ 1000000000000) : AFn Try.prog 70 [.agg [.int .i64 m, .sl false 2 (intL l)], .int .i64 c] (.agg [.int .i64 m, .sl true 2 (intL (tab l.length (fun j => if j = 0 then c % m else 0)))]) := by
  refine AFn.of' ttOk (by decide) Try.func70 Try.ntmps70 (by rw [Try.results70]) (by rfl) (by rfl) (by simp) (by decide) (by simp only [go_sem, Nat.reduceAdd, ↓reduceIte]; rfl) mixed (fun C hP hM hC => ?_)
  have hI : (0 : Int) < (l.length : Int) := by omega
  (repeat (first | ((with_reducible refine rgn_cons rfl (fun K hK => ?_)); simp only [go_sem, seval, ↓reduceIte, decide_true, decide_false, tab_length, hI, Int.le_refl, Int.toNat_zero, intL_get _ 0 (show 0 < (tab l.length (fun _ => 0)).length by simpa [tab_length] using h0), intL_modify, tab_set, List.take_zero, Nat.zero_mul, show (0 : Int) < (l.length : Int) by omega, h0]; (first | refine hK _ _ _ (by simp only [go_sem, Nat.reduceEqDiff, ↓reduceIte]; rfl) ?_ | refine ⟨_, c_impl_Series_degree m l (by omega), hK _ _ _ (by simp only [go_sem, Nat.reduceEqDiff, ↓reduceIte]; rfl) ?_⟩ | refine ⟨_, c_impl_zero m ((l.length : Int) - 1) l.length (by omega) (by omega), hK _ _ _ (by simp only [go_sem, Nat.reduceEqDiff, ↓reduceIte]; rfl) ?_⟩ | refine ⟨_, c_impl_mod c m hm (by omega), hK _ _ _ (by simp only [go_sem, Nat.reduceEqDiff, ↓reduceIte]; rfl) ?_⟩); clear hK; clear K) | (with_reducible first | refine rgn_nil (by first | trivial | kernel_rfl) ?_ | refine AWP.seq ?_ | refine tX hC hP (by kernel_rfl) ?_ | refine aX hC hM hP (by kernel_rfl) ?_ | refine AWP.skip ?_ | refine AWP.label ?_ | refine AWP.exit ?_ | refine AWP.block ?_ | refine cT (by simp only [go_sem, Nat.reduceEqDiff, ↓reduceIte]; with_reducible rfl) ?_ | refine cF (by simp only [go_sem, Nat.reduceEqDiff, ↓reduceIte]; with_reducible rfl) ?_) | simp only [qS, Nat.reduceEqDiff, ↓reduceIte]))
  (refine AWP.ret ?_; first | refine retOk1 (by simp only [go_sem, seval, ↓reduceIte, decide_true, decide_false]; rfl) ?_ | refine retOk2 (by simp only [go_sem, seval, ↓reduceIte, decide_true, decide_false]; rfl) (by simp only [go_sem, seval, ↓reduceIte, decide_true, decide_false]; rfl) (by simp) ?_ | refine retOk3 (by simp only [go_sem, seval, ↓reduceIte, decide_true, decide_false]; rfl) (by simp only [go_sem, seval, ↓reduceIte, decide_true, decide_false]; rfl) (by simp only [go_sem, seval, ↓reduceIte, decide_true, decide_false]; rfl) (by simp) ?_)
  rfl
theorem c_spec_l14One (m z : Int) (n d : Nat) (hm : 2 ≤ m) (hm2 : m ≤ 10000) (hz : 0 ≤ z) (hz2 : z < m) (hn : 0 < n) (hn2 : n ≤ 1000000) (hd : d ≤ 1000000) : AFn Try.prog 82 [.int .i64 m, .int .i64 z, .int .i64 n, .int .i64 d] (.sl true 2 (intL (geo m z n d))) := by
  refine AFn.of' ttOk (by decide) Try.func82 Try.ntmps82 (by rw [Try.results82]) (by rfl) (by rfl) (by simp) (by decide) (by simp only [go_sem, Nat.reduceAdd, ↓reduceIte]; rfl) mixed (fun C hP hM hC => ?_)
  have hm0 : m ≠ 0 := by omega
  (repeat (first | ((with_reducible refine rgn_cons rfl (fun K hK => ?_)); simp only [go_sem, seval, ↓reduceIte, decide_true, decide_false, wid ((d : Int) + 1) (by omega) (by omega), show (0 : Int) ≤ (d : Int) + 1 by omega, show ((d : Int) + 1).toNat = d + 1 by omega, show (d : Int) + 1 ≤ 1099511627776 by omega, intL_replicate, tab_zero]; (refine hK _ _ _ (by simp only [go_sem, Nat.reduceEqDiff, ↓reduceIte]; rfl) ?_); clear hK; clear K) | (with_reducible first | refine rgn_nil (by first | trivial | kernel_rfl) ?_ | refine AWP.seq ?_ | refine tX hC hP (by kernel_rfl) ?_ | refine aX hC hM hP (by kernel_rfl) ?_ | refine AWP.skip ?_ | refine AWP.label ?_ | refine AWP.exit ?_ | refine AWP.block ?_ | refine cT (by simp only [go_sem, Nat.reduceEqDiff, ↓reduceIte]; with_reducible rfl) ?_ | refine cF (by simp only [go_sem, Nat.reduceEqDiff, ↓reduceIte]; with_reducible rfl) ?_) | simp only [qS, Nat.reduceEqDiff, ↓reduceIte]))
  refine AWP.loop (fun c : Nat => [(11, ⟨0, .val (.int .i64 (c * n : Nat))⟩), (10, ⟨0, .val (.int .i64 (z ^ c % m))⟩), (9, ⟨1, .own (.sl true 2 (intL (tab (d + 1) (geoF m z n c))))⟩), (0, ⟨0, .val (.int .i64 m)⟩), (1, ⟨0, .val (.int .i64 z)⟩), (2, ⟨0, .val (.int .i64 n)⟩), (3, ⟨0, .val (.int .i64 d)⟩)]) (fun c => c ≤ d + 1) (fun c => d + 1 - c) 0 (Nat.zero_le _) (fun i => rfl) ?_ (fun c hc => ?_)
  · have e1 : (1 : Int) % m = 1 := Int.emod_eq_of_lt (by omega) (by omega)
    have e2 : tab (d + 1) (geoF m z n 0) = tab (d + 1) (fun _ => 0) := tab_congr fun j _ => by simp [geoF]
    simp [Sub, lk, e1, e2]
  · have hb := emod_b (z ^ c) m (by omega)
    have hcn : (c + 1) * n ≤ 1000002 * 1000000 := Nat.mul_le_mul (by omega) hn2
    have hcn2 : (c + 1) * n = c * n + n := Nat.succ_mul c n
    (repeat (first | ((with_reducible refine rgn_cons rfl (fun K hK => ?_)); simp only [go_sem, seval, ↓reduceIte, decide_true, decide_false]; (refine hK _ _ _ (by simp only [go_sem, Nat.reduceEqDiff, ↓reduceIte]; rfl) ?_); clear hK; clear K) | (with_reducible first | refine rgn_nil (by first | trivial | kernel_rfl) ?_ | refine AWP.seq ?_ | refine tX hC hP (by kernel_rfl) ?_ | refine aX hC hM hP (by kernel_rfl) ?_ | refine AWP.skip ?_ | refine AWP.label ?_ | refine AWP.exit ?_ | refine AWP.block ?_ | refine cT (by simp only [go_sem, Nat.reduceEqDiff, ↓reduceIte]; with_reducible rfl) ?_ | refine cF (by simp only [go_sem, Nat.reduceEqDiff, ↓reduceIte]; with_reducible rfl) ?_) | simp only [qS, Nat.reduceEqDiff, ↓reduceIte]))
    refine AWP.cond (by decide) rfl (fun h => ?_) (fun h => ?_)
    · have hlt : c * n ≤ d := by have : ((c * n : Nat) : Int) ≤ (d : Int) := by simpa using h
                                 omega
      have hi : c * n < (tab (d + 1) (geoF m z n c)).length := by rw [tab_length]; omega
      have hmb := mul_bound4 hb.1 hb.2 hz hz2 hm2
      have e3 : (z ^ c % m) % m = z ^ c % m := Int.emod_emod _ _
      have e4 : z ^ c % m * z % m = z ^ (c + 1) % m := by rw [mul_emod_l, Int.pow_succ]
      have hI : ((c * n : Nat) : Int) < ((d + 1 : Nat) : Int) := by omega
      (repeat (first | ((with_reducible refine rgn_cons rfl (fun K hK => ?_)); simp only [go_sem, seval, ↓reduceIte, decide_true, decide_false, hm0, tm _ m hb.1, e3, Int.natCast_nonneg, Int.toNat_natCast, tab_length, hI, Nat.mul_one, intL_get _ _ hi, sizeL_take _ _ (Nat.le_of_lt hi), intL_modify, tab_set' (fun j _ => geoF_set hn j), wid (z ^ c % m * z) (by omega) (by omega), tm _ m hmb.1, e4, wid (((c * n : Nat) : Int) + n) (by omega) (by omega)]; (refine hK _ _ _ (by simp only [go_sem, Nat.reduceEqDiff, ↓reduceIte]; rfl) ?_); clear hK; clear K) | (with_reducible first | refine rgn_nil (by first | trivial | kernel_rfl) ?_ | refine AWP.seq ?_ | refine tX hC hP (by kernel_rfl) ?_ | refine aX hC hM hP (by kernel_rfl) ?_ | refine AWP.skip ?_ | refine AWP.label ?_ | refine AWP.exit ?_ | refine AWP.block ?_ | refine cT (by simp only [go_sem, Nat.reduceEqDiff, ↓reduceIte]; with_reducible rfl) ?_ | refine cF (by simp only [go_sem, Nat.reduceEqDiff, ↓reduceIte]; with_reducible rfl) ?_) | simp only [qS, Nat.reduceEqDiff, ↓reduceIte]))
      have hc1 := Nat.le_mul_of_pos_right c hn
      exact ⟨c + 1, by omega, by omega, by simp [Sub, lk, Int.add_mul]⟩
    · have hge : d < c * n := by have : ¬ ((c * n : Nat) : Int) ≤ (d : Int) := by simpa using h
                                 omega
      (repeat (first | ((with_reducible refine rgn_cons rfl (fun K hK => ?_)); simp only [go_sem, seval, ↓reduceIte, decide_true, decide_false]; (refine hK _ _ _ (by simp only [go_sem, Nat.reduceEqDiff, ↓reduceIte]; rfl) ?_); clear hK; clear K) | (with_reducible first | refine rgn_nil (by first | trivial | kernel_rfl) ?_ | refine AWP.seq ?_ | refine tX hC hP (by kernel_rfl) ?_ | refine aX hC hM hP (by kernel_rfl) ?_ | refine AWP.skip ?_ | refine AWP.label ?_ | refine AWP.exit ?_ | refine AWP.block ?_ | refine cT (by simp only [go_sem, Nat.reduceEqDiff, ↓reduceIte]; with_reducible rfl) ?_ | refine cF (by simp only [go_sem, Nat.reduceEqDiff, ↓reduceIte]; with_reducible rfl) ?_) | simp only [qS, Nat.reduceEqDiff, ↓reduceIte]))
      (refine AWP.ret ?_; first | refine retOk1 (by simp only [go_sem, seval, ↓reduceIte, decide_true, decide_false]; rfl) ?_ | refine retOk2 (by simp only [go_sem, seval, ↓reduceIte, decide_true, decide_false]; rfl) (by simp only [go_sem, seval, ↓reduceIte, decide_true, decide_false]; rfl) (by simp) ?_ | refine retOk3 (by simp only [go_sem, seval, ↓reduceIte, decide_true, decide_false]; rfl) (by simp only [go_sem, seval, ↓reduceIte, decide_true, decide_false]; rfl) (by simp only [go_sem, seval, ↓reduceIte, decide_true, decide_false]; rfl) (by simp) ?_)
      rw [geo_of hn hge]
theorem c_impl_Series_geometric (m z : Int) (l : List Int) (n : Nat) (h0 : 0 < l.length) (hl : l.length ≤ 1000000) (hm : 2 ≤ m) (hm2 : m ≤ 10000) (hz : 0 ≤ z) (hz2 : z < m) (hn : 0 < n) (hn2 : n ≤ 1000000) : AFn Try.prog 55 [.agg [.int .i64 m, .sl false 2 (intL l)], .int .i64 z, .int .i64 n] (.agg [.int .i64 m, .sl true 2 (intL (geo m z n (l.length - 1)))]) := by
  refine AFn.of' ttOk (by decide) Try.func55 Try.ntmps55 (by rw [Try.results55]) (by rfl) (by rfl) (by simp) (by decide) (by simp only [go_sem, Nat.reduceAdd, ↓reduceIte]; rfl) mixed (fun C hP hM hC => ?_)
  have hm0 : m ≠ 0 := by omega
  have e0 : (1 : Int) % m = 1 := Int.emod_eq_of_lt (by omega) (by omega)
  (repeat (first | ((with_reducible refine rgn_cons rfl (fun K hK => ?_)); simp only [go_sem, seval, ↓reduceIte, decide_true, decide_false]; (first | refine hK _ _ _ (by simp only [go_sem, Nat.reduceEqDiff, ↓reduceIte]; rfl) ?_ | refine ⟨_, c_impl_Series_constant m l 1 hl h0 (by omega) (by omega), hK _ _ _ (by simp only [go_sem, Nat.reduceEqDiff, ↓reduceIte]; rfl) ?_⟩); clear hK; clear K) | (with_reducible first | refine rgn_nil (by first | trivial | kernel_rfl) ?_ | refine AWP.seq ?_ | refine tX hC hP (by kernel_rfl) ?_ | refine aX hC hM hP (by kernel_rfl) ?_ | refine AWP.skip ?_ | refine AWP.label ?_ | refine AWP.exit ?_ | refine AWP.block ?_ | refine cT (by simp only [go_sem, Nat.reduceEqDiff, ↓reduceIte]; with_reducible rfl) ?_ | refine cF (by simp only [go_sem, Nat.reduceEqDiff, ↓reduceIte]; with_reducible rfl) ?_) | simp only [qS, Nat.reduceEqDiff, ↓reduceIte]))
  refine AWP.loop (fun c : Nat => [(9, ⟨0, .val (.int .i64 (c * n : Nat))⟩), (8, ⟨0, .val (.int .i64 (z ^ (c - 1) % m))⟩), (7, ⟨2, .own (.box 26 (.agg [.int .i64 m, .sl true 2 (intL (tab l.length (geoF m z n c)))]))⟩), (3, ⟨1, .own (.box 26 (.agg [.int .i64 m, .sl false 2 (intL l)]))⟩), (6, ⟨1, .own (.box 26 (.agg [.int .i64 0, .nil]))⟩), (1, ⟨0, .val (.int .i64 z)⟩), (2, ⟨0, .val (.int .i64 n)⟩)]) (fun c => 0 < c ∧ c ≤ l.length) (fun c => l.length - c) 1 (by omega) (fun i => rfl) ?_ (fun c hc => ?_)
  · have e2 : tab l.length (fun j => if j = 0 then 1 % m else 0) = tab l.length (geoF m z n 1) := tab_congr fun j _ => by
      unfold geoF
      by_cases e : j = 0
      · subst e; simp
      · rw [if_neg e, if_neg]
        rintro ⟨h1, h2⟩
        have := Nat.div_add_mod j n
        have h3 : j / n = 0 := Nat.lt_one_iff.1 h2
        rw [h1, h3] at this; simp at this; omega
    rw [e0] at e2
    simp [Sub, lk, e2, e0]
  · have hb := emod_b (z ^ (c - 1)) m (by omega)
    have hcn : (c + 1) * n ≤ 1000002 * 1000000 := Nat.mul_le_mul (by omega) hn2
    have hcn2 : (c + 1) * n = c * n + n := Nat.succ_mul c n
    (repeat (first | ((with_reducible refine rgn_cons rfl (fun K hK => ?_)); simp only [go_sem, seval, ↓reduceIte, decide_true, decide_false]; (first | refine hK _ _ _ (by simp only [go_sem, Nat.reduceEqDiff, ↓reduceIte]; rfl) ?_ | refine ⟨_, c_impl_Series_degree m l (by omega), hK _ _ _ (by simp only [go_sem, Nat.reduceEqDiff, ↓reduceIte]; rfl) ?_⟩); clear hK; clear K) | (with_reducible first | refine rgn_nil (by first | trivial | kernel_rfl) ?_ | refine AWP.seq ?_ | refine tX hC hP (by kernel_rfl) ?_ | refine aX hC hM hP (by kernel_rfl) ?_ | refine AWP.skip ?_ | refine AWP.label ?_ | refine AWP.exit ?_ | refine AWP.block ?_ | refine cT (by simp only [go_sem, Nat.reduceEqDiff, ↓reduceIte]; with_reducible rfl) ?_ | refine cF (by simp only [go_sem, Nat.reduceEqDiff, ↓reduceIte]; with_reducible rfl) ?_) | simp only [qS, Nat.reduceEqDiff, ↓reduceIte]))
    refine AWP.cond (by decide) rfl (fun h => ?_) (fun h => ?_)
    · have hlt : c * n < l.length := by have : ((c * n : Nat) : Int) ≤ (l.length : Int) - 1 := by simpa using h
                                        omega
      have hi : c * n < (tab l.length (geoF m z n c)).length := by rw [tab_length]; exact hlt
      have hmb := mul_bound4 hb.1 hb.2 hz hz2 hm2
      have e4 : z ^ (c - 1) % m * z % m = z ^ c % m := by rw [mul_emod_l, ← Int.pow_succ]; congr 2; omega
      have hI : ((c * n : Nat) : Int) < (l.length : Int) := by omega
      (repeat (first | ((with_reducible refine rgn_cons rfl (fun K hK => ?_)); simp only [go_sem, seval, ↓reduceIte, decide_true, decide_false, hm0, Int.natCast_nonneg, Int.toNat_natCast, tab_length, hI, Nat.mul_one, intL_get _ _ hi, sizeL_take _ _ (Nat.le_of_lt hi), intL_modify, tab_set' (fun j _ => geoF_set hn j), wid (z ^ (c - 1) % m * z) (by omega) (by omega), tm _ m hmb.1, e4, wid (((c * n : Nat) : Int) + n) (by omega) (by omega)]; (refine hK _ _ _ (by simp only [go_sem, Nat.reduceEqDiff, ↓reduceIte]; rfl) ?_); clear hK; clear K) | (with_reducible first | refine rgn_nil (by first | trivial | kernel_rfl) ?_ | refine AWP.seq ?_ | refine tX hC hP (by kernel_rfl) ?_ | refine aX hC hM hP (by kernel_rfl) ?_ | refine AWP.skip ?_ | refine AWP.label ?_ | refine AWP.exit ?_ | refine AWP.block ?_ | refine cT (by simp only [go_sem, Nat.reduceEqDiff, ↓reduceIte]; with_reducible rfl) ?_ | refine cF (by simp only [go_sem, Nat.reduceEqDiff, ↓reduceIte]; with_reducible rfl) ?_) | simp only [qS, Nat.reduceEqDiff, ↓reduceIte]))
      have hc1 := Nat.le_mul_of_pos_right c hn
      exact ⟨c + 1, by omega, by omega, by simp [Sub, lk, Int.add_mul]⟩
    · have hge : l.length ≤ c * n := by have : ¬ ((c * n : Nat) : Int) ≤ (l.length : Int) - 1 := by simpa using h
                                        omega
      (repeat (first | ((with_reducible refine rgn_cons rfl (fun K hK => ?_)); simp only [go_sem, seval, ↓reduceIte, decide_true, decide_false]; (refine hK _ _ _ (by simp only [go_sem, Nat.reduceEqDiff, ↓reduceIte]; rfl) ?_); clear hK; clear K) | (with_reducible first | refine rgn_nil (by first | trivial | kernel_rfl) ?_ | refine AWP.seq ?_ | refine tX hC hP (by kernel_rfl) ?_ | refine aX hC hM hP (by kernel_rfl) ?_ | refine AWP.skip ?_ | refine AWP.label ?_ | refine AWP.exit ?_ | refine AWP.block ?_ | refine cT (by simp only [go_sem, Nat.reduceEqDiff, ↓reduceIte]; with_reducible rfl) ?_ | refine cF (by simp only [go_sem, Nat.reduceEqDiff, ↓reduceIte]; with_reducible rfl) ?_) | simp only [qS, Nat.reduceEqDiff, ↓reduceIte]))
      (refine AWP.ret ?_; first | refine retOk1 (by simp only [go_sem, seval, ↓reduceIte, decide_true, decide_false]; rfl) ?_ | refine retOk2 (by simp only [go_sem, seval, ↓reduceIte, decide_true, decide_false]; rfl) (by simp only [go_sem, seval, ↓reduceIte, decide_true, decide_false]; rfl) (by simp) ?_ | refine retOk3 (by simp only [go_sem, seval, ↓reduceIte, decide_true, decide_false]; rfl) (by simp only [go_sem, seval, ↓reduceIte, decide_true, decide_false]; rfl) (by simp only [go_sem, seval, ↓reduceIte, decide_true, decide_false]; rfl) (by simp) ?_)
      have := geo_of (m := m) (z := z) (n := n) (c := c) (d := l.length - 1) hn (by omega)
      rw [← this, show l.length - 1 + 1 = l.length by omega]
theorem c_spec_l02Make (m : Int) (l : List Int) : AFn Try.prog 45 [.int .i64 m, .sl true 2 (intL l)] (.agg [.int .i64 m, .sl true 2 (intL l)]) := by
  refine AFn.of' ttOk (by decide) Try.func45 Try.ntmps45 (by rw [Try.results45]) (by rfl) (by rfl) (by simp) (by decide) (by simp only [go_sem, Nat.reduceAdd, ↓reduceIte]; rfl) mixed (fun C hP hM hC => ?_)
  (repeat (first | ((with_reducible refine rgn_cons rfl (fun K hK => ?_)); simp only [go_sem, seval, ↓reduceIte, decide_true, decide_false]; (refine hK _ _ _ (by simp only [go_sem, Nat.reduceEqDiff, ↓reduceIte]; rfl) ?_); clear hK; clear K) | (with_reducible first | refine rgn_nil (by first | trivial | kernel_rfl) ?_ | refine AWP.seq ?_ | refine tX hC hP (by kernel_rfl) ?_ | refine aX hC hM hP (by kernel_rfl) ?_ | refine AWP.skip ?_ | refine AWP.label ?_ | refine AWP.exit ?_ | refine AWP.block ?_ | refine cT (by simp only [go_sem, Nat.reduceEqDiff, ↓reduceIte]; with_reducible rfl) ?_ | refine cF (by simp only [go_sem, Nat.reduceEqDiff, ↓reduceIte]; with_reducible rfl) ?_) | simp only [qS, Nat.reduceEqDiff, ↓reduceIte]))
  (refine AWP.ret ?_; first | refine retOk1 (by simp only [go_sem, seval, ↓reduceIte, decide_true, decide_false]; rfl) ?_ | refine retOk2 (by simp only [go_sem, seval, ↓reduceIte, decide_true, decide_false]; rfl) (by simp only [go_sem, seval, ↓reduceIte, decide_true, decide_false]; rfl) (by simp) ?_ | refine retOk3 (by simp only [go_sem, seval, ↓reduceIte, decide_true, decide_false]; rfl) (by simp only [go_sem, seval, ↓reduceIte, decide_true, decide_false]; rfl) (by simp only [go_sem, seval, ↓reduceIte, decide_true, decide_false]; rfl) (by simp) ?_)
  rfl
end Go.Proofs.Ytccjfbfebgfgoaa
