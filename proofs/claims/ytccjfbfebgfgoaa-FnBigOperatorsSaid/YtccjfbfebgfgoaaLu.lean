/-
  Products of big vectors.
-/
import Derived.Test.YtccjfbfebgfgoaaLt
import Derived.Test.YtccjfbfebgfgoaaPj
namespace Go.Proofs.Ytccjfbfebgfgoaa
open Go.RowKit
set_option linter.unusedSimpArgs false
set_option linter.unusedVariables false
set_option linter.unusedSectionVars false
set_option maxRecDepth 20000
-- Products of big vectors.
set_option maxHeartbeats 4000000 in
theorem c_spec_l14Product (m : Int) (a b : List Int) (d : Nat) (hm : 1 < m) (hm2 : m ≤ 10000) (ha : ∀ x ∈ a, 0 ≤ x ∧ x < m) (hla : a.length = d + 1) (hb : ∀ x ∈ b, 0 ≤ x ∧ x < m) (hlb : b.length = d + 1) (hd : d ≤ 10) : AFn Try.prog 46 [.int .i64 m, .sl false 2 (intL a), .sl false 2 (intL b)] (.sl true 2 (intL (prodL m a b d))) := by
  refine AFn.of' ttOk (by decide) Try.func46 Try.ntmps46 (by rw [Try.results46]) (by rfl) (by rfl) (by simp) (by decide) (by simp only [go_sem, Nat.reduceAdd, ↓reduceIte]; rfl) mixed (fun C hP hM hC => ?_)
  have hCa := c_spec_l14Coordinates m a d hm hm2 ha hla (by omega)
  have hCb := c_spec_l14Coordinates m b d hm hm2 hb hlb (by omega)
  have hxn := cL_num (d := d) hm hla ha
  have hyn := cL_num (d := d) hm hlb hb
  have hxl := cL_length m a d
  have hyl := cL_length m b d
  unfold prodL
  generalize cL m a d = x at hCa hxn hxl ⊢
  generalize cL m b d = y at hCb hyn hyl ⊢
  have h0 : 0 < (tab (d + 1) (fun _ => 0)).length := by rw [tab_length]; omega
  (repeat (first | ((with_reducible refine rgn_cons rfl (fun K hK => ?_)); simp only [go_sem, seval, ↓reduceIte, decide_true, decide_false, hla, show ((d + 1 : Nat) : Int) - 1 = (d : Int) by omega, wid (d : Int) (by omega) (by omega), wid ((d : Int) + 1) (by omega) (by omega), show (0 : Int) ≤ (d : Int) + 1 by omega, show ((d : Int) + 1).toNat = d + 1 by omega, show (d : Int) + 1 ≤ 1099511627776 by omega, intL_replicate, tab_zero, tab_length, Int.le_refl, Int.toNat_zero, show (0 : Int) < ((d + 1 : Nat) : Int) by omega, intL_get _ _ h0, List.take_zero, Nat.zero_mul, intL_modify, tab_set, oneL_of]; (first | refine hK _ _ _ (by simp only [go_sem, Nat.reduceEqDiff, ↓reduceIte]; rfl) ?_ | refine ⟨_, hCa, hK _ _ _ (by simp only [go_sem, Nat.reduceEqDiff, ↓reduceIte]; rfl) ?_⟩ | refine ⟨_, hCb, hK _ _ _ (by simp only [go_sem, Nat.reduceEqDiff, ↓reduceIte]; rfl) ?_⟩); clear hK; clear K) | (with_reducible first | refine rgn_nil (by first | trivial | kernel_rfl) ?_ | refine AWP.seq ?_ | refine tX hC hP (by kernel_rfl) ?_ | refine aX hC hM hP (by kernel_rfl) ?_ | refine AWP.skip ?_ | refine AWP.label ?_ | refine AWP.exit ?_ | refine AWP.block ?_ | refine cT (by simp only [go_sem, Nat.reduceEqDiff, ↓reduceIte]; with_reducible rfl) ?_ | refine cF (by simp only [go_sem, Nat.reduceEqDiff, ↓reduceIte]; with_reducible rfl) ?_) | simp only [qS, Nat.reduceEqDiff, ↓reduceIte]))
  refine AWP.loop (fun w : Nat × Nat => [(11, ⟨0, .val (.int .i64 (w.1 + 1 : Nat))⟩), (10, ⟨w.2, .own (.sl true 2 (intL (prO m d x y w.1)))⟩), (9, ⟨1, .own (.sl true 2 (intL y))⟩), (8, ⟨1, .own (.sl true 2 (intL x))⟩), (7, ⟨0, .val (.int .i64 d)⟩), (0, ⟨0, .val (.int .i64 m)⟩)]) (fun w => w.1 ≤ d) (fun w => d - w.1) (0, 1) (Nat.zero_le _) (fun i => rfl) ?_ (fun w hw => ?_)
  · simp [Sub, lk, prO]
  · obtain ⟨i, v⟩ := w
    simp only at hw ⊢
    by_cases hi : i < d
    · (repeat (first | ((with_reducible refine rgn_cons rfl (fun K hK => ?_)); simp only [go_sem, seval, ↓reduceIte, decide_true, decide_false, show ((i + 1 : Nat) : Int) ≤ (d : Int) by omega]; (refine hK _ _ _ (by simp only [go_sem, Nat.reduceEqDiff, ↓reduceIte]; rfl) ?_); clear hK; clear K) | (with_reducible first | refine rgn_nil (by first | trivial | kernel_rfl) ?_ | refine AWP.seq ?_ | refine tX hC hP (by kernel_rfl) ?_ | refine aX hC hM hP (by kernel_rfl) ?_ | refine AWP.skip ?_ | refine AWP.label ?_ | refine AWP.exit ?_ | refine AWP.block ?_ | refine cT (by simp only [go_sem, Nat.reduceEqDiff, ↓reduceIte]; with_reducible rfl) ?_ | refine cF (by simp only [go_sem, Nat.reduceEqDiff, ↓reduceIte]; with_reducible rfl) ?_) | simp only [qS, Nat.reduceEqDiff, ↓reduceIte]))
      refine AWP.loop (fun w : Nat × Nat => [(12, ⟨0, .val (.int .i64 (w.1 + 1 : Nat))⟩), (11, ⟨0, .val (.int .i64 (i + 1 : Nat))⟩), (10, ⟨w.2, .own (.sl true 2 (intL (prI m d x y i (prO m d x y i) w.1)))⟩), (9, ⟨1, .own (.sl true 2 (intL y))⟩), (8, ⟨1, .own (.sl true 2 (intL x))⟩), (7, ⟨0, .val (.int .i64 d)⟩), (0, ⟨0, .val (.int .i64 m)⟩)]) (fun w => w.1 ≤ d) (fun w => d - w.1) (0, v) (Nat.zero_le _) (fun i => rfl) ?_ (fun w hw => ?_)
      · simp [Sub, lk, prI]
      · obtain ⟨j, v⟩ := w
        simp only at hw ⊢
        by_cases hj : j < d
        · have hgc := c_spec_l01Gcd (i + 1) (j + 1) (by omega) (by omega)
          have hx := at_bound hxn (by omega) i
          have hy := at_bound hyn (by omega) j
          have hli : i < x.length := by omega
          have hlj : j < y.length := by omega
          obtain ⟨g, hg⟩ : ∃ g, Nat.gcd (i + 1) (j + 1) = g := ⟨_, rfl⟩
          have hg0 : 0 < g := hg ▸ Nat.gcd_pos_of_pos_right _ (by omega)
          have hgd : g ∣ i + 1 := hg ▸ Nat.gcd_dvd_left _ _
          have hg1 : g ≤ i + 1 := Nat.le_of_dvd (by omega) hgd
          obtain ⟨q, hq⟩ : ∃ q, (i + 1) / g = q := ⟨_, rfl⟩
          have hq0 : 0 < q := hq ▸ Nat.div_pos hg1 hg0
          have hq1 : q ≤ i + 1 := hq ▸ Nat.div_le_self _ _
          obtain ⟨k, hk⟩ : ∃ k, q * (j + 1) = k := ⟨_, rfl⟩
          have hk0 : 0 < k := hk ▸ Nat.mul_pos hq0 (by omega)
          have hk1 : k ≤ 10 * 10 := hk ▸ Nat.mul_le_mul (by omega) (by omega)
          obtain ⟨p1, hp1⟩ : ∃ p, k / (i + 1) = p := ⟨_, rfl⟩
          have hp1b : p1 ≤ k := hp1 ▸ Nat.div_le_self _ _
          obtain ⟨p2, hp2⟩ : ∃ p, k / (j + 1) = p := ⟨_, rfl⟩
          have hp2b : p2 ≤ k := hp2 ▸ Nat.div_le_self _ _
          have hz1 := emod_b (at' x i ^ p1) m (by omega)
          have hz2 := emod_b (at' y j ^ p2) m (by omega)
          have hzb := mul_bound4 hz1.1 hz1.2 hz2.1 hz2.2 (by omega)
          obtain ⟨z, hz⟩ : ∃ z, (at' x i ^ p1 % m) * (at' y j ^ p2 % m) % m = z := ⟨_, rfl⟩
          have hzz : 0 ≤ z ∧ z < m := hz ▸ emod_b _ m (by omega)
          have hI : numL m d (prI m d x y i (prO m d x y i) j) := prI_facts (by omega) (prO_facts (by omega) i) j
          have hst : prI m d x y i (prO m d x y i) (j + 1) = if k ≤ d then timesL m (prI m d x y i (prO m d x y i) j) (powL m (geo m z k d) g d) d else prI m d x y i (prO m d x y i) j := by
            simp only [prI, prS, hg, hq, hk, hp1, hp2, hz]
          generalize prI m d x y i (prO m d x y i) j = o at hI hst
          rw [hg] at hgc
          have hmu : (q : Int) * ((j + 1 : Nat) : Int) = (k : Int) := by rw [← hk, Int.natCast_mul]
          by_cases hkd : k ≤ d
          · rw [if_pos hkd] at hst
            have hP1 := c_spec_l01Pow m (at' x i) p1 (by omega) (by omega) (by omega)
            have hP2 := c_spec_l01Pow m (at' y j) p2 (by omega) (by omega) (by omega)
            have hG := c_spec_l14One m z k d (by omega) (by omega) hzz.1 hzz.2 hk0 (by omega) (by omega)
            have hPo := c_spec_l02Power m (geo m z k d) g d (by omega) (by omega) (geo_num (by omega)) (by rw [geo_length]; omega) (by omega) (by omega)
            have hT := c_spec_l02Times m o (powL m (geo m z k d) g d) d (by omega) (by omega) hI.2 (powL_num (by omega) _ _ _) (by rw [hI.1]; omega) (by rw [powL_length (by omega)]; omega) (by omega)
            (repeat (first | ((with_reducible refine rgn_cons rfl (fun K hK => ?_)); simp only [go_sem, seval, ↓reduceIte, decide_true, decide_false, show ((j + 1 : Nat) : Int) ≤ (d : Int) by omega, nat_tdiv, hq, hp1, hp2, hmu, show (g : Int) ≠ 0 by omega, show ((i + 1 : Nat) : Int) ≠ 0 by omega, show ((j + 1 : Nat) : Int) ≠ 0 by omega, widN q (by omega), widN k (by omega), widN p1 (by omega), widN p2 (by omega), show ¬ (d : Int) < (k : Int) by omega, decide_false, wid (((i + 1 : Nat) : Int) - 1) (by omega) (by omega), show (0 : Int) ≤ ((i + 1 : Nat) : Int) - 1 by omega, hxl, hyl, show ((i + 1 : Nat) : Int) - 1 < (d : Int) by omega, show (((i + 1 : Nat) : Int) - 1).toNat = i by omega, wid (((j + 1 : Nat) : Int) - 1) (by omega) (by omega), show (0 : Int) ≤ ((j + 1 : Nat) : Int) - 1 by omega, show ((j + 1 : Nat) : Int) - 1 < (d : Int) by omega, show (((j + 1 : Nat) : Int) - 1).toNat = j by omega, Nat.mul_one, intL_get x i hli, sizeL_take x i (by omega), show x.getD i 0 = at' x i from rfl, intL_get y j hlj, sizeL_take y j (by omega), show y.getD j 0 = at' y j from rfl, wid (at' x i ^ p1 % m * (at' y j ^ p2 % m)) (by omega) (by omega), tm (at' x i ^ p1 % m * (at' y j ^ p2 % m)) m (by omega), hz, show m ≠ 0 by omega, wid (((j + 1 : Nat) : Int) + 1) (by omega) (by omega)]; (first | refine hK _ _ _ (by simp only [go_sem, Nat.reduceEqDiff, ↓reduceIte]; rfl) ?_ | refine ⟨_, hgc, hK _ _ _ (by simp only [go_sem, Nat.reduceEqDiff, ↓reduceIte]; rfl) ?_⟩ | refine ⟨_, hP1, hK _ _ _ (by simp only [go_sem, Nat.reduceEqDiff, ↓reduceIte]; rfl) ?_⟩ | refine ⟨_, hP2, hK _ _ _ (by simp only [go_sem, Nat.reduceEqDiff, ↓reduceIte]; rfl) ?_⟩ | refine ⟨_, hG, hK _ _ _ (by simp only [go_sem, Nat.reduceEqDiff, ↓reduceIte]; rfl) ?_⟩ | refine ⟨_, hPo, hK _ _ _ (by simp only [go_sem, Nat.reduceEqDiff, ↓reduceIte]; rfl) ?_⟩ | refine ⟨_, hT, hK _ _ _ (by simp only [go_sem, Nat.reduceEqDiff, ↓reduceIte]; rfl) ?_⟩); clear hK; clear K) | (with_reducible first | refine rgn_nil (by first | trivial | kernel_rfl) ?_ | refine AWP.seq ?_ | refine tX hC hP (by kernel_rfl) ?_ | refine aX hC hM hP (by kernel_rfl) ?_ | refine AWP.skip ?_ | refine AWP.label ?_ | refine AWP.exit ?_ | refine AWP.block ?_ | refine cT (by simp only [go_sem, Nat.reduceEqDiff, ↓reduceIte]; with_reducible rfl) ?_ | refine cF (by simp only [go_sem, Nat.reduceEqDiff, ↓reduceIte]; with_reducible rfl) ?_) | simp only [qS, Nat.reduceEqDiff, ↓reduceIte]))
            exact ⟨(j + 1, v + 1), by simp only; omega, by simp only; omega, by simp [Sub, lk, hst]⟩
          · rw [if_neg hkd] at hst
            (repeat (first | ((with_reducible refine rgn_cons rfl (fun K hK => ?_)); simp only [go_sem, seval, ↓reduceIte, decide_true, decide_false, show ((j + 1 : Nat) : Int) ≤ (d : Int) by omega, nat_tdiv, hq, hmu, show (g : Int) ≠ 0 by omega, widN q (by omega), widN k (by omega), show (d : Int) < (k : Int) by omega, decide_true, wid (((j + 1 : Nat) : Int) + 1) (by omega) (by omega)]; (first | refine hK _ _ _ (by simp only [go_sem, Nat.reduceEqDiff, ↓reduceIte]; rfl) ?_ | refine ⟨_, hgc, hK _ _ _ (by simp only [go_sem, Nat.reduceEqDiff, ↓reduceIte]; rfl) ?_⟩); clear hK; clear K) | (with_reducible first | refine rgn_nil (by first | trivial | kernel_rfl) ?_ | refine AWP.seq ?_ | refine tX hC hP (by kernel_rfl) ?_ | refine aX hC hM hP (by kernel_rfl) ?_ | refine AWP.skip ?_ | refine AWP.label ?_ | refine AWP.exit ?_ | refine AWP.block ?_ | refine cT (by simp only [go_sem, Nat.reduceEqDiff, ↓reduceIte]; with_reducible rfl) ?_ | refine cF (by simp only [go_sem, Nat.reduceEqDiff, ↓reduceIte]; with_reducible rfl) ?_) | simp only [qS, Nat.reduceEqDiff, ↓reduceIte]))
            exact ⟨(j + 1, v), by simp only; omega, by simp only; omega, by simp [Sub, lk, hst]⟩
        · have hje : j = d := by omega
          (repeat (first | ((with_reducible refine rgn_cons rfl (fun K hK => ?_)); simp only [go_sem, seval, ↓reduceIte, decide_true, decide_false, show ¬ ((j + 1 : Nat) : Int) ≤ (d : Int) by omega, decide_false, wid (((i + 1 : Nat) : Int) + 1) (by omega) (by omega)]; (refine hK _ _ _ (by simp only [go_sem, Nat.reduceEqDiff, ↓reduceIte]; rfl) ?_); clear hK; clear K) | (with_reducible first | refine rgn_nil (by first | trivial | kernel_rfl) ?_ | refine AWP.seq ?_ | refine tX hC hP (by kernel_rfl) ?_ | refine aX hC hM hP (by kernel_rfl) ?_ | refine AWP.skip ?_ | refine AWP.label ?_ | refine AWP.exit ?_ | refine AWP.block ?_ | refine cT (by simp only [go_sem, Nat.reduceEqDiff, ↓reduceIte]; with_reducible rfl) ?_ | refine cF (by simp only [go_sem, Nat.reduceEqDiff, ↓reduceIte]; with_reducible rfl) ?_) | simp only [qS, Nat.reduceEqDiff, ↓reduceIte]))
          exact ⟨(i + 1, v), by simp only; omega, by simp only; omega, by simp [Sub, lk, prO, hje]⟩
    · (repeat (first | ((with_reducible refine rgn_cons rfl (fun K hK => ?_)); simp only [go_sem, seval, ↓reduceIte, decide_true, decide_false, show ¬ ((i + 1 : Nat) : Int) ≤ (d : Int) by omega, decide_false]; (refine hK _ _ _ (by simp only [go_sem, Nat.reduceEqDiff, ↓reduceIte]; rfl) ?_); clear hK; clear K) | (with_reducible first | refine rgn_nil (by first | trivial | kernel_rfl) ?_ | refine AWP.seq ?_ | refine tX hC hP (by kernel_rfl) ?_ | refine aX hC hM hP (by kernel_rfl) ?_ | refine AWP.skip ?_ | refine AWP.label ?_ | refine AWP.exit ?_ | refine AWP.block ?_ | refine cT (by simp only [go_sem, Nat.reduceEqDiff, ↓reduceIte]; with_reducible rfl) ?_ | refine cF (by simp only [go_sem, Nat.reduceEqDiff, ↓reduceIte]; with_reducible rfl) ?_) | simp only [qS, Nat.reduceEqDiff, ↓reduceIte]))
      (refine AWP.ret ?_; first | refine retOk1 (by simp only [go_sem, seval, ↓reduceIte, decide_true, decide_false]; rfl) ?_ | refine retOk2 (by simp only [go_sem, seval, ↓reduceIte, decide_true, decide_false]; rfl) (by simp only [go_sem, seval, ↓reduceIte, decide_true, decide_false]; rfl) (by simp) ?_ | refine retOk3 (by simp only [go_sem, seval, ↓reduceIte, decide_true, decide_false]; rfl) (by simp only [go_sem, seval, ↓reduceIte, decide_true, decide_false]; rfl) (by simp only [go_sem, seval, ↓reduceIte, decide_true, decide_false]; rfl) (by simp) ?_)
      rw [show i = d by omega]
set_option maxHeartbeats 4000000 in
theorem c_impl_bigProduct (m : Int) (a b : List Int) (d : Nat) (hm : 1 < m) (hm2 : m ≤ 10000) (ha : ∀ x ∈ a, 0 ≤ x ∧ x < m) (hla : a.length = d + 1) (hb : ∀ x ∈ b, 0 ≤ x ∧ x < m) (hlb : b.length = d + 1) (hd : d ≤ 10) : AFn Try.prog 43 [.agg [.int .i64 m, .sl false 2 (intL a)], .agg [.int .i64 m, .sl false 2 (intL b)]] (.agg [.int .i64 m, .sl true 2 (intL (prodL m a b d))]) := by
  refine AFn.of' ttOk (by decide) Try.func43 Try.ntmps43 (by rw [Try.results43]) (by rfl) (by rfl) (by simp) (by decide) (by simp only [go_sem, Nat.reduceAdd, ↓reduceIte]; rfl) mixed (fun C hP hM hC => ?_)
  have hCa := c_impl_Series_coordinates m a d hm hm2 ha hla (by omega)
  have hCb := c_impl_Series_coordinates m b d hm hm2 hb hlb (by omega)
  have hdg := c_impl_Series_degree m a (by omega)
  rw [hla, show ((d + 1 : Nat) : Int) - 1 = (d : Int) by omega] at hdg
  have e1 : (1 : Int) % m = 1 := Int.emod_eq_of_lt (by omega) (by omega)
  have hcs := c_impl_Series_constant m a 1 (by omega) (by omega) (by omega) (by omega)
  rw [e1, hla, oneL_of] at hcs
  have hxn := cL_num (d := d) hm hla ha
  have hyn := cL_num (d := d) hm hlb hb
  have hxl := cL_length m a d
  have hyl := cL_length m b d
  unfold prodL
  generalize cL m a d = x at hCa hxn hxl ⊢
  generalize cL m b d = y at hCb hyn hyl ⊢
  (repeat (first | ((with_reducible refine rgn_cons rfl (fun K hK => ?_)); simp only [go_sem, seval, ↓reduceIte, decide_true, decide_false, hxl]; (first | refine hK _ _ _ (by simp only [go_sem, Nat.reduceEqDiff, ↓reduceIte]; rfl) ?_ | refine ⟨_, hcs, hK _ _ _ (by simp only [go_sem, Nat.reduceEqDiff, ↓reduceIte]; rfl) ?_⟩ | refine ⟨_, hCa, hK _ _ _ (by simp only [go_sem, Nat.reduceEqDiff, ↓reduceIte]; rfl) ?_⟩ | refine ⟨_, hCb, hK _ _ _ (by simp only [go_sem, Nat.reduceEqDiff, ↓reduceIte]; rfl) ?_⟩); clear hK; clear K) | (with_reducible first | refine rgn_nil (by first | trivial | kernel_rfl) ?_ | refine AWP.seq ?_ | refine tX hC hP (by kernel_rfl) ?_ | refine aX hC hM hP (by kernel_rfl) ?_ | refine AWP.skip ?_ | refine AWP.label ?_ | refine AWP.exit ?_ | refine AWP.block ?_ | refine cT (by simp only [go_sem, Nat.reduceEqDiff, ↓reduceIte]; with_reducible rfl) ?_ | refine cF (by simp only [go_sem, Nat.reduceEqDiff, ↓reduceIte]; with_reducible rfl) ?_) | simp only [qS, Nat.reduceEqDiff, ↓reduceIte]))
  refine AWP.loop (fun w : Nat × Nat => [(25, ⟨0, .val (.int .i64 w.1)⟩), (24, ⟨0, .val (.int .i64 d)⟩), (23, ⟨0, .val (.ref 6 1 [])⟩), (7, ⟨1, .own (.sl true 2 (intL y))⟩), (6, ⟨1, .own (.sl true 2 (intL x))⟩), (5, ⟨w.2, .own (.box 26 (.agg [.int .i64 m, .sl true 2 (intL (prO m d x y w.1))]))⟩), (4, ⟨1, .own (.box 26 (.agg [.int .i64 0, .nil]))⟩), (2, ⟨1, .own (.box 26 (.agg [.int .i64 m, .sl false 2 (intL a)]))⟩)]) (fun w => w.1 ≤ d) (fun w => d - w.1) (0, 2) (Nat.zero_le _) (fun i => rfl) ?_ (fun w hw => ?_)
  · simp [Sub, lk, prO]
  · obtain ⟨i, v⟩ := w
    simp only at hw ⊢
    by_cases hi : i < d
    · have hxi := at_bound hxn (by omega) i
      have hlii : i < x.length := by omega
      (repeat (first | ((with_reducible refine rgn_cons rfl (fun K hK => ?_)); simp only [go_sem, seval, ↓reduceIte, decide_true, decide_false, show (i : Int) < (d : Int) by omega, hxl, hyl, Int.toNat_natCast, Int.natCast_nonneg, Nat.mul_one, intL_get x i hlii, sizeL_take x i (by omega), show x.getD i 0 = at' x i from rfl]; (refine hK _ _ _ (by simp only [go_sem, Nat.reduceEqDiff, ↓reduceIte]; rfl) ?_); clear hK; clear K) | (with_reducible first | refine rgn_nil (by first | trivial | kernel_rfl) ?_ | refine AWP.seq ?_ | refine tX hC hP (by kernel_rfl) ?_ | refine aX hC hM hP (by kernel_rfl) ?_ | refine AWP.skip ?_ | refine AWP.label ?_ | refine AWP.exit ?_ | refine AWP.block ?_ | refine cT (by simp only [go_sem, Nat.reduceEqDiff, ↓reduceIte]; with_reducible rfl) ?_ | refine cF (by simp only [go_sem, Nat.reduceEqDiff, ↓reduceIte]; with_reducible rfl) ?_) | simp only [qS, Nat.reduceEqDiff, ↓reduceIte]))
      refine AWP.loop (fun w : Nat × Nat => [(32, ⟨0, .val (.int .i64 w.1)⟩), (31, ⟨0, .val (.int .i64 d)⟩), (30, ⟨0, .val (.ref 7 1 [])⟩), (9, ⟨0, .val (.int .i64 (at' x i))⟩), (8, ⟨0, .val (.int .i64 i)⟩), (25, ⟨0, .val (.int .i64 i)⟩), (24, ⟨0, .val (.int .i64 d)⟩), (23, ⟨0, .val (.ref 6 1 [])⟩), (7, ⟨1, .own (.sl true 2 (intL y))⟩), (6, ⟨1, .own (.sl true 2 (intL x))⟩), (5, ⟨w.2, .own (.box 26 (.agg [.int .i64 m, .sl true 2 (intL (prI m d x y i (prO m d x y i) w.1))]))⟩), (4, ⟨1, .own (.box 26 (.agg [.int .i64 0, .nil]))⟩), (2, ⟨1, .own (.box 26 (.agg [.int .i64 m, .sl false 2 (intL a)]))⟩)]) (fun w => w.1 ≤ d) (fun w => d - w.1) (0, v) (Nat.zero_le _) (fun i => rfl) ?_ (fun w hw => ?_)
      · simp [Sub, lk, prI]
      · obtain ⟨j, v⟩ := w
        simp only at hw ⊢
        by_cases hj : j < d
        · have hgc := c_impl_gcd (i + 1) (j + 1) (by omega) (by omega)
          have hx := at_bound hxn (by omega) i
          have hy := at_bound hyn (by omega) j
          have hli : i < x.length := by omega
          have hlj : j < y.length := by omega
          obtain ⟨g, hg⟩ : ∃ g, Nat.gcd (i + 1) (j + 1) = g := ⟨_, rfl⟩
          have hg0 : 0 < g := hg ▸ Nat.gcd_pos_of_pos_right _ (by omega)
          have hgd : g ∣ i + 1 := hg ▸ Nat.gcd_dvd_left _ _
          have hg1 : g ≤ i + 1 := Nat.le_of_dvd (by omega) hgd
          obtain ⟨q, hq⟩ : ∃ q, (i + 1) / g = q := ⟨_, rfl⟩
          have hq0 : 0 < q := hq ▸ Nat.div_pos hg1 hg0
          have hq1 : q ≤ i + 1 := hq ▸ Nat.div_le_self _ _
          obtain ⟨k, hk⟩ : ∃ k, q * (j + 1) = k := ⟨_, rfl⟩
          have hk0 : 0 < k := hk ▸ Nat.mul_pos hq0 (by omega)
          have hk1 : k ≤ 10 * 10 := hk ▸ Nat.mul_le_mul (by omega) (by omega)
          obtain ⟨p1, hp1⟩ : ∃ p, k / (i + 1) = p := ⟨_, rfl⟩
          have hp1b : p1 ≤ k := hp1 ▸ Nat.div_le_self _ _
          obtain ⟨p2, hp2⟩ : ∃ p, k / (j + 1) = p := ⟨_, rfl⟩
          have hp2b : p2 ≤ k := hp2 ▸ Nat.div_le_self _ _
          have hz1 := emod_b (at' x i ^ p1) m (by omega)
          have hz2 := emod_b (at' y j ^ p2) m (by omega)
          have hzb := mul_bound4 hz1.1 hz1.2 hz2.1 hz2.2 (by omega)
          obtain ⟨z, hz⟩ : ∃ z, (at' x i ^ p1 % m) * (at' y j ^ p2 % m) % m = z := ⟨_, rfl⟩
          have hzz : 0 ≤ z ∧ z < m := hz ▸ emod_b _ m (by omega)
          have hI : numL m d (prI m d x y i (prO m d x y i) j) := prI_facts (by omega) (prO_facts (by omega) i) j
          have hst : prI m d x y i (prO m d x y i) (j + 1) = if k ≤ d then timesL m (prI m d x y i (prO m d x y i) j) (powL m (geo m z k d) g d) d else prI m d x y i (prO m d x y i) j := by
            simp only [prI, prS, hg, hq, hk, hp1, hp2, hz]
          generalize prI m d x y i (prO m d x y i) j = o at hI hst
          rw [hg, show ((i + 1 : Nat) : Int) = (i : Int) + 1 by omega, show ((j + 1 : Nat) : Int) = (j : Int) + 1 by omega] at hgc
          have hmu : (q : Int) * ((j : Int) + 1) = (k : Int) := by rw [← hk, Int.natCast_mul]; rfl
          have ht1 : ((i : Int) + 1).tdiv (g : Int) = (q : Int) := by rw [show (i : Int) + 1 = ((i + 1 : Nat) : Int) by omega, nat_tdiv, hq]
          have ht2 : (k : Int).tdiv ((i : Int) + 1) = (p1 : Int) := by rw [show (i : Int) + 1 = ((i + 1 : Nat) : Int) by omega, nat_tdiv, hp1]
          have ht3 : (k : Int).tdiv ((j : Int) + 1) = (p2 : Int) := by rw [show (j : Int) + 1 = ((j + 1 : Nat) : Int) by omega, nat_tdiv, hp2]
          by_cases hkd : k ≤ d
          · rw [if_pos hkd] at hst
            have hP1 := c_impl_power m (at' x i) p1 (by omega) (by omega) hx.1 hx.2 (by omega)
            have hP2 := c_impl_power m (at' y j) p2 (by omega) (by omega) hy.1 hy.2 (by omega)
            have hG := c_impl_Series_geometric m z a k (by omega) (by omega) (by omega) (by omega) hzz.1 hzz.2 hk0 (by omega)
            rw [hla, Nat.add_sub_cancel] at hG
            have hPo := c_impl_Series_power m (geo m z k d) g d (by omega) (by omega) (geo_num (by omega)) (geo_length _ _ _ _) (by omega) (by omega)
            have hT := c_impl_Series_times m o (powL m (geo m z k d) g d) d (by omega) (by omega) hI.2 (powL_num (by omega) _ _ _) hI.1 (powL_length (by omega) _ _ _) (by omega)
            (repeat (first | ((with_reducible refine rgn_cons rfl (fun K hK => ?_)); simp only [go_sem, seval, ↓reduceIte, decide_true, decide_false, show (j : Int) < (d : Int) by omega, ht1, ht2, ht3, hmu, show (g : Int) ≠ 0 by omega, show (i : Int) + 1 ≠ 0 by omega, show (j : Int) + 1 ≠ 0 by omega, wid ((i : Int) + 1) (by omega) (by omega), wid ((j : Int) + 1) (by omega) (by omega), widN q (by omega), widN k (by omega), widN p1 (by omega), widN p2 (by omega), show ¬ (d : Int) < (k : Int) by omega, decide_false, hyl, Int.toNat_natCast, Int.natCast_nonneg, Nat.mul_one, intL_get y j hlj, sizeL_take y j (by omega), show y.getD j 0 = at' y j from rfl, wid (at' x i ^ p1 % m * (at' y j ^ p2 % m)) (by omega) (by omega), tm (at' x i ^ p1 % m * (at' y j ^ p2 % m)) m (by omega), hz, show m ≠ 0 by omega]; (first | refine hK _ _ _ (by simp only [go_sem, Nat.reduceEqDiff, ↓reduceIte]; rfl) ?_ | refine ⟨_, hgc, hK _ _ _ (by simp only [go_sem, Nat.reduceEqDiff, ↓reduceIte]; rfl) ?_⟩ | refine ⟨_, hdg, hK _ _ _ (by simp only [go_sem, Nat.reduceEqDiff, ↓reduceIte]; rfl) ?_⟩ | refine ⟨_, hP1, hK _ _ _ (by simp only [go_sem, Nat.reduceEqDiff, ↓reduceIte]; rfl) ?_⟩ | refine ⟨_, hP2, hK _ _ _ (by simp only [go_sem, Nat.reduceEqDiff, ↓reduceIte]; rfl) ?_⟩ | refine ⟨_, hG, hK _ _ _ (by simp only [go_sem, Nat.reduceEqDiff, ↓reduceIte]; rfl) ?_⟩ | refine ⟨_, hPo, hK _ _ _ (by simp only [go_sem, Nat.reduceEqDiff, ↓reduceIte]; rfl) ?_⟩ | refine ⟨_, hT, hK _ _ _ (by simp only [go_sem, Nat.reduceEqDiff, ↓reduceIte]; rfl) ?_⟩); clear hK; clear K) | (with_reducible first | refine rgn_nil (by first | trivial | kernel_rfl) ?_ | refine AWP.seq ?_ | refine tX hC hP (by kernel_rfl) ?_ | refine aX hC hM hP (by kernel_rfl) ?_ | refine AWP.skip ?_ | refine AWP.label ?_ | refine AWP.exit ?_ | refine AWP.block ?_ | refine cT (by simp only [go_sem, Nat.reduceEqDiff, ↓reduceIte]; with_reducible rfl) ?_ | refine cF (by simp only [go_sem, Nat.reduceEqDiff, ↓reduceIte]; with_reducible rfl) ?_) | simp only [qS, Nat.reduceEqDiff, ↓reduceIte]))
            exact ⟨(j + 1, v + 1), by simp only; omega, by simp only; omega, by simp [Sub, lk, hst]⟩
          · rw [if_neg hkd] at hst
            (repeat (first | ((with_reducible refine rgn_cons rfl (fun K hK => ?_)); simp only [go_sem, seval, ↓reduceIte, decide_true, decide_false, show (j : Int) < (d : Int) by omega, ht1, hmu, show (g : Int) ≠ 0 by omega, wid ((i : Int) + 1) (by omega) (by omega), wid ((j : Int) + 1) (by omega) (by omega), widN q (by omega), widN k (by omega), show (d : Int) < (k : Int) by omega, decide_true, hyl, Int.toNat_natCast, Int.natCast_nonneg, Nat.mul_one, intL_get y j hlj, sizeL_take y j (by omega), show y.getD j 0 = at' y j from rfl]; (first | refine hK _ _ _ (by simp only [go_sem, Nat.reduceEqDiff, ↓reduceIte]; rfl) ?_ | refine ⟨_, hgc, hK _ _ _ (by simp only [go_sem, Nat.reduceEqDiff, ↓reduceIte]; rfl) ?_⟩ | refine ⟨_, hdg, hK _ _ _ (by simp only [go_sem, Nat.reduceEqDiff, ↓reduceIte]; rfl) ?_⟩); clear hK; clear K) | (with_reducible first | refine rgn_nil (by first | trivial | kernel_rfl) ?_ | refine AWP.seq ?_ | refine tX hC hP (by kernel_rfl) ?_ | refine aX hC hM hP (by kernel_rfl) ?_ | refine AWP.skip ?_ | refine AWP.label ?_ | refine AWP.exit ?_ | refine AWP.block ?_ | refine cT (by simp only [go_sem, Nat.reduceEqDiff, ↓reduceIte]; with_reducible rfl) ?_ | refine cF (by simp only [go_sem, Nat.reduceEqDiff, ↓reduceIte]; with_reducible rfl) ?_) | simp only [qS, Nat.reduceEqDiff, ↓reduceIte]))
            exact ⟨(j + 1, v), by simp only; omega, by simp only; omega, by simp [Sub, lk, hst]⟩
        · have hje : j = d := by omega
          (repeat (first | ((with_reducible refine rgn_cons rfl (fun K hK => ?_)); simp only [go_sem, seval, ↓reduceIte, decide_true, decide_false, show ¬ (j : Int) < (d : Int) by omega, decide_false, wid ((i : Int) + 1) (by omega) (by omega)]; (refine hK _ _ _ (by simp only [go_sem, Nat.reduceEqDiff, ↓reduceIte]; rfl) ?_); clear hK; clear K) | (with_reducible first | refine rgn_nil (by first | trivial | kernel_rfl) ?_ | refine AWP.seq ?_ | refine tX hC hP (by kernel_rfl) ?_ | refine aX hC hM hP (by kernel_rfl) ?_ | refine AWP.skip ?_ | refine AWP.label ?_ | refine AWP.exit ?_ | refine AWP.block ?_ | refine cT (by simp only [go_sem, Nat.reduceEqDiff, ↓reduceIte]; with_reducible rfl) ?_ | refine cF (by simp only [go_sem, Nat.reduceEqDiff, ↓reduceIte]; with_reducible rfl) ?_) | simp only [qS, Nat.reduceEqDiff, ↓reduceIte]))
          exact ⟨(i + 1, v), by simp only; omega, by simp only; omega, by simp [Sub, lk, prO, hje]⟩
    · (repeat (first | ((with_reducible refine rgn_cons rfl (fun K hK => ?_)); simp only [go_sem, seval, ↓reduceIte, decide_true, decide_false, show ¬ (i : Int) < (d : Int) by omega, decide_false]; (refine hK _ _ _ (by simp only [go_sem, Nat.reduceEqDiff, ↓reduceIte]; rfl) ?_); clear hK; clear K) | (with_reducible first | refine rgn_nil (by first | trivial | kernel_rfl) ?_ | refine AWP.seq ?_ | refine tX hC hP (by kernel_rfl) ?_ | refine aX hC hM hP (by kernel_rfl) ?_ | refine AWP.skip ?_ | refine AWP.label ?_ | refine AWP.exit ?_ | refine AWP.block ?_ | refine cT (by simp only [go_sem, Nat.reduceEqDiff, ↓reduceIte]; with_reducible rfl) ?_ | refine cF (by simp only [go_sem, Nat.reduceEqDiff, ↓reduceIte]; with_reducible rfl) ?_) | simp only [qS, Nat.reduceEqDiff, ↓reduceIte]))
      (refine AWP.ret ?_; first | refine retOk1 (by simp only [go_sem, seval, ↓reduceIte, decide_true, decide_false]; rfl) ?_ | refine retOk2 (by simp only [go_sem, seval, ↓reduceIte, decide_true, decide_false]; rfl) (by simp only [go_sem, seval, ↓reduceIte, decide_true, decide_false]; rfl) (by simp) ?_ | refine retOk3 (by simp only [go_sem, seval, ↓reduceIte, decide_true, decide_false]; rfl) (by simp only [go_sem, seval, ↓reduceIte, decide_true, decide_false]; rfl) (by simp only [go_sem, seval, ↓reduceIte, decide_true, decide_false]; rfl) (by simp) ?_)
      rw [show i = d by omega]
theorem c_spec_MultiplyBig_ok (m1 m2 : Int) (l1 l2 : List Int) (h1 : l1.length ≤ 1099511627776) (h2 : l2.length ≤ 1099511627776) (h : twoB m1 l1 m2 l2 = 0) : AFn Try.prog 9 [.agg [.int .i64 m1, .sl false 2 (intL l1)], .agg [.int .i64 m2, .sl false 2 (intL l2)]] (.tup [.agg [.int .i64 m1, .sl true 2 (intL (prodL m1 l1 l2 (l1.length - 1)))], .int .i64 (twoB m1 l1 m2 l2)]) := by
  refine AFn.of' ttOk (by decide) Try.func9 Try.ntmps9 (by rw [Try.results9]) (by rfl) (by rfl) (by simp) (by decide) (by simp only [go_sem, Nat.reduceAdd, ↓reduceIte]; rfl) mixed (fun C hP hM hC => ?_)
  have hz := twoB_zero h
  have f1 := isBig_facts hz.1
  have f2 := isBig_facts hz.2.1
  have hT := c_spec_l14Product m1 l1 l2 (l1.length - 1) (by omega) (by omega) f1.2.2.2.2.1 (by omega) (by rw [← hz.2.2.1]; exact f2.2.2.2.2.1) (by omega) (by omega)
  have hTw := c_spec_l14Two m1 m2 l1 l2 h1 h2
  rw [h] at hTw ⊢
  (repeat (first | ((with_reducible refine rgn_cons rfl (fun K hK => ?_)); simp only [go_sem, seval, ↓reduceIte, decide_true, decide_false]; (first | refine hK _ _ _ (by simp only [go_sem, Nat.reduceEqDiff, ↓reduceIte]; rfl) ?_ | refine ⟨_, hTw, hK _ _ _ (by simp only [go_sem, Nat.reduceEqDiff, ↓reduceIte]; rfl) ?_⟩ | refine ⟨_, hT, hK _ _ _ (by simp only [go_sem, Nat.reduceEqDiff, ↓reduceIte]; rfl) ?_⟩ | refine ⟨_, c_spec_l02Make m1 _, hK _ _ _ (by simp only [go_sem, Nat.reduceEqDiff, ↓reduceIte]; rfl) ?_⟩); clear hK; clear K) | (with_reducible first | refine rgn_nil (by first | trivial | kernel_rfl) ?_ | refine AWP.seq ?_ | refine tX hC hP (by kernel_rfl) ?_ | refine aX hC hM hP (by kernel_rfl) ?_ | refine AWP.skip ?_ | refine AWP.label ?_ | refine AWP.exit ?_ | refine AWP.block ?_ | refine cT (by simp only [go_sem, Nat.reduceEqDiff, ↓reduceIte]; with_reducible rfl) ?_ | refine cF (by simp only [go_sem, Nat.reduceEqDiff, ↓reduceIte]; with_reducible rfl) ?_) | simp only [qS, Nat.reduceEqDiff, ↓reduceIte]))
  (refine AWP.ret ?_; first | refine retOk1 (by simp only [go_sem, seval, ↓reduceIte, decide_true, decide_false]; rfl) ?_ | refine retOk2 (by simp only [go_sem, seval, ↓reduceIte, decide_true, decide_false]; rfl) (by simp only [go_sem, seval, ↓reduceIte, decide_true, decide_false]; rfl) (by simp) ?_ | refine retOk3 (by simp only [go_sem, seval, ↓reduceIte, decide_true, decide_false]; rfl) (by simp only [go_sem, seval, ↓reduceIte, decide_true, decide_false]; rfl) (by simp only [go_sem, seval, ↓reduceIte, decide_true, decide_false]; rfl) (by simp) ?_)
  rfl
theorem c_spec_MultiplyBig_no (m1 m2 : Int) (l1 l2 : List Int) (h1 : l1.length ≤ 1099511627776) (h2 : l2.length ≤ 1099511627776) (h : ¬ twoB m1 l1 m2 l2 = 0) : AFn Try.prog 9 [.agg [.int .i64 m1, .sl false 2 (intL l1)], .agg [.int .i64 m2, .sl false 2 (intL l2)]] (.tup [.agg [.int .i64 0, .nil], .int .i64 (twoB m1 l1 m2 l2)]) := by
  refine AFn.of' ttOk (by decide) Try.func9 Try.ntmps9 (by rw [Try.results9]) (by rfl) (by rfl) (by simp) (by decide) (by simp only [go_sem, Nat.reduceAdd, ↓reduceIte]; rfl) mixed (fun C hP hM hC => ?_)
  have hb : (twoB m1 l1 m2 l2 != 0) = true := by simp [h]
  (repeat (first | ((with_reducible refine rgn_cons rfl (fun K hK => ?_)); simp only [go_sem, seval, ↓reduceIte, decide_true, decide_false, hb]; (first | refine hK _ _ _ (by simp only [go_sem, Nat.reduceEqDiff, ↓reduceIte]; rfl) ?_ | refine ⟨_, c_spec_l14Two m1 m2 l1 l2 h1 h2, hK _ _ _ (by simp only [go_sem, Nat.reduceEqDiff, ↓reduceIte]; rfl) ?_⟩); clear hK; clear K) | (with_reducible first | refine rgn_nil (by first | trivial | kernel_rfl) ?_ | refine AWP.seq ?_ | refine tX hC hP (by kernel_rfl) ?_ | refine aX hC hM hP (by kernel_rfl) ?_ | refine AWP.skip ?_ | refine AWP.label ?_ | refine AWP.exit ?_ | refine AWP.block ?_ | refine cT (by simp only [go_sem, Nat.reduceEqDiff, ↓reduceIte]; with_reducible rfl) ?_ | refine cF (by simp only [go_sem, Nat.reduceEqDiff, ↓reduceIte]; with_reducible rfl) ?_) | simp only [qS, Nat.reduceEqDiff, ↓reduceIte]))
  (refine AWP.ret ?_; first | refine retOk1 (by simp only [go_sem, seval, ↓reduceIte, decide_true, decide_false]; rfl) ?_ | refine retOk2 (by simp only [go_sem, seval, ↓reduceIte, decide_true, decide_false]; rfl) (by simp only [go_sem, seval, ↓reduceIte, decide_true, decide_false]; rfl) (by simp) ?_ | refine retOk3 (by simp only [go_sem, seval, ↓reduceIte, decide_true, decide_false]; rfl) (by simp only [go_sem, seval, ↓reduceIte, decide_true, decide_false]; rfl) (by simp only [go_sem, seval, ↓reduceIte, decide_true, decide_false]; rfl) (by simp) ?_)
  rfl
theorem c_impl_MultiplyBig_ok (m1 m2 : Int) (l1 l2 : List Int) (h1 : l1.length ≤ 1099511627776) (h2 : l2.length ≤ 1099511627776) (h : twoB m1 l1 m2 l2 = 0) : AFn Try.prog 8 [.agg [.int .i64 m1, .sl false 2 (intL l1)], .agg [.int .i64 m2, .sl false 2 (intL l2)]] (.tup [.agg [.int .i64 m1, .sl true 2 (intL (prodL m1 l1 l2 (l1.length - 1)))], .int .i64 (twoB m1 l1 m2 l2)]) := by
  refine AFn.of' ttOk (by decide) Try.func8 Try.ntmps8 (by rw [Try.results8]) (by rfl) (by rfl) (by simp) (by decide) (by simp only [go_sem, Nat.reduceAdd, ↓reduceIte]; rfl) mixed (fun C hP hM hC => ?_)
  have hz := twoB_zero h
  have f1 := isBig_facts hz.1
  have f2 := isBig_facts hz.2.1
  have hT := c_impl_bigProduct m1 l1 l2 (l1.length - 1) (by omega) (by omega) f1.2.2.2.2.1 (by omega) (by rw [← hz.2.2.1]; exact f2.2.2.2.2.1) (by omega) (by omega)
  have hTw := c_impl_bothBig m1 m2 l1 l2 h1 h2
  rw [h] at hTw ⊢
  obtain ⟨_, _, rfl, _⟩ := hz
  (repeat (first | ((with_reducible refine rgn_cons rfl (fun K hK => ?_)); simp only [go_sem, seval, ↓reduceIte, decide_true, decide_false]; (first | refine hK _ _ _ (by simp only [go_sem, Nat.reduceEqDiff, ↓reduceIte]; rfl) ?_ | refine ⟨_, hTw, hK _ _ _ (by simp only [go_sem, Nat.reduceEqDiff, ↓reduceIte]; rfl) ?_⟩ | refine ⟨_, hT, hK _ _ _ (by simp only [go_sem, Nat.reduceEqDiff, ↓reduceIte]; rfl) ?_⟩); clear hK; clear K) | (with_reducible first | refine rgn_nil (by first | trivial | kernel_rfl) ?_ | refine AWP.seq ?_ | refine tX hC hP (by kernel_rfl) ?_ | refine aX hC hM hP (by kernel_rfl) ?_ | refine AWP.skip ?_ | refine AWP.label ?_ | refine AWP.exit ?_ | refine AWP.block ?_ | refine cT (by simp only [go_sem, Nat.reduceEqDiff, ↓reduceIte]; with_reducible rfl) ?_ | refine cF (by simp only [go_sem, Nat.reduceEqDiff, ↓reduceIte]; with_reducible rfl) ?_) | simp only [qS, Nat.reduceEqDiff, ↓reduceIte]))
  (refine AWP.ret ?_; first | refine retOk1 (by simp only [go_sem, seval, ↓reduceIte, decide_true, decide_false]; rfl) ?_ | refine retOk2 (by simp only [go_sem, seval, ↓reduceIte, decide_true, decide_false]; rfl) (by simp only [go_sem, seval, ↓reduceIte, decide_true, decide_false]; rfl) (by simp) ?_ | refine retOk3 (by simp only [go_sem, seval, ↓reduceIte, decide_true, decide_false]; rfl) (by simp only [go_sem, seval, ↓reduceIte, decide_true, decide_false]; rfl) (by simp only [go_sem, seval, ↓reduceIte, decide_true, decide_false]; rfl) (by simp) ?_)
  rfl
theorem c_impl_MultiplyBig_no (m1 m2 : Int) (l1 l2 : List Int) (h1 : l1.length ≤ 1099511627776) (h2 : l2.length ≤ 1099511627776) (h : ¬ twoB m1 l1 m2 l2 = 0) : AFn Try.prog 8 [.agg [.int .i64 m1, .sl false 2 (intL l1)], .agg [.int .i64 m2, .sl false 2 (intL l2)]] (.tup [.agg [.int .i64 0, .nil], .int .i64 (twoB m1 l1 m2 l2)]) := by
  refine AFn.of' ttOk (by decide) Try.func8 Try.ntmps8 (by rw [Try.results8]) (by rfl) (by rfl) (by simp) (by decide) (by simp only [go_sem, Nat.reduceAdd, ↓reduceIte]; rfl) mixed (fun C hP hM hC => ?_)
  have hb : (twoB m1 l1 m2 l2 != 0) = true := by simp [h]
  (repeat (first | ((with_reducible refine rgn_cons rfl (fun K hK => ?_)); simp only [go_sem, seval, ↓reduceIte, decide_true, decide_false, hb]; (first | refine hK _ _ _ (by simp only [go_sem, Nat.reduceEqDiff, ↓reduceIte]; rfl) ?_ | refine ⟨_, c_impl_bothBig m1 m2 l1 l2 h1 h2, hK _ _ _ (by simp only [go_sem, Nat.reduceEqDiff, ↓reduceIte]; rfl) ?_⟩); clear hK; clear K) | (with_reducible first | refine rgn_nil (by first | trivial | kernel_rfl) ?_ | refine AWP.seq ?_ | refine tX hC hP (by kernel_rfl) ?_ | refine aX hC hM hP (by kernel_rfl) ?_ | refine AWP.skip ?_ | refine AWP.label ?_ | refine AWP.exit ?_ | refine AWP.block ?_ | refine cT (by simp only [go_sem, Nat.reduceEqDiff, ↓reduceIte]; with_reducible rfl) ?_ | refine cF (by simp only [go_sem, Nat.reduceEqDiff, ↓reduceIte]; with_reducible rfl) ?_) | simp only [qS, Nat.reduceEqDiff, ↓reduceIte]))
  (refine AWP.ret ?_; first | refine retOk1 (by simp only [go_sem, seval, ↓reduceIte, decide_true, decide_false]; rfl) ?_ | refine retOk2 (by simp only [go_sem, seval, ↓reduceIte, decide_true, decide_false]; rfl) (by simp only [go_sem, seval, ↓reduceIte, decide_true, decide_false]; rfl) (by simp) ?_ | refine retOk3 (by simp only [go_sem, seval, ↓reduceIte, decide_true, decide_false]; rfl) (by simp only [go_sem, seval, ↓reduceIte, decide_true, decide_false]; rfl) (by simp only [go_sem, seval, ↓reduceIte, decide_true, decide_false]; rfl) (by simp) ?_)
  rfl
end Go.Proofs.Ytccjfbfebgfgoaa
