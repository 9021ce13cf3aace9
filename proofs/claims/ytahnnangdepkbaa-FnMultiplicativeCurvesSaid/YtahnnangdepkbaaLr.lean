/-
  Coordinates of big vectors.
-/
import Derived.Test.YtahnnangdepkbaaLf
import Derived.Test.YtahnnangdepkbaaPa
import Derived.Test.YtahnnangdepkbaaLd
namespace Go.Proofs.Ytahnnangdepkbaa
open Go.RowKit
set_option linter.unusedSimpArgs false
set_option linter.unusedVariables false
set_option linter.unusedSectionVars false
set_option maxRecDepth 20000
-- Coordinates of big vectors.
set_option maxHeartbeats 1000000 in
theorem c_impl_Series_coordinates (m : Int) (l : List Int) (d : Nat) (hm : 1 < m) (hm2 : m ≤ 10000) (ha : ∀ x ∈ l, 0 ≤ x ∧ x < m) (hl : l.length = d + 1) (hd : d ≤ 100000) : AFn Try.prog 31 [.agg [.int .i64 m, .sl false 2 (intL l)]] (.sl true 2 (intL (cL m l d))) := by
  refine AFn.of' ttOk (by decide) Try.func31 Try.ntmps31 (by rw [Try.results31]) (by rfl) (by rfl) (by simp) (by decide) (by simp only [go_sem, Nat.reduceAdd, ↓reduceIte]; rfl) mixed (fun C hP hM hC => ?_)
  have hdg := c_impl_Series_degree m l (by omega)
  rw [hl, show ((d + 1 : Nat) : Int) - 1 = (d : Int) by omega] at hdg
  (repeat (first | ((with_reducible refine rgn_cons rfl (fun K hK => ?_)); simp only [go_sem, seval, ↓reduceIte, decide_true, decide_false]; (refine hK _ _ _ (by simp only [go_sem, Nat.reduceEqDiff, ↓reduceIte]; rfl) ?_); clear hK; clear K) | (with_reducible first | refine rgn_nil (by first | trivial | kernel_rfl) ?_ | refine AWP.seq ?_ | refine tX hC hP (by kernel_rfl) ?_ | refine aX hC hM hP (by kernel_rfl) ?_ | refine AWP.skip ?_ | refine AWP.label ?_ | refine AWP.exit ?_ | refine AWP.block ?_ | refine cTa ?_ | refine cFa ?_) | simp only [qS, Nat.reduceEqDiff, ↓reduceIte]))
  refine AWP.loop (fun w : Nat × Nat × Option Nat => match w with
    | (c, v3, none) => [(5, ⟨0, .val (.int .i64 (c + 1 : Nat))⟩), (3, ⟨v3, .own (.sl true 2 (intL (tab c (fun c => at' (cR m d l c) (c + 1)))))⟩), (4, ⟨2, .own (.box 36 (.agg [.int .i64 m, .sl false 2 (intL (cR m d l c))]))⟩), (1, ⟨1, .own (.box 36 (.agg [.int .i64 m, .sl false 2 (intL l)]))⟩)]
    | (c, v3, some v4) => [(5, ⟨0, .val (.int .i64 (c + 1 : Nat))⟩), (3, ⟨v3, .own (.sl true 2 (intL (tab c (fun c => at' (cR m d l c) (c + 1)))))⟩), (4, ⟨v4, .own (.box 36 (.agg [.int .i64 m, .sl true 2 (intL (cR m d l c))]))⟩), (1, ⟨1, .own (.box 36 (.agg [.int .i64 m, .sl false 2 (intL l)]))⟩)]) (fun w => w.1 ≤ d) (fun w => d - w.1) (0, 1, none) (Nat.zero_le _) (fun w => by obtain ⟨_, _, x⟩ := w; cases x <;> rfl) ?_ (fun w hw => ?_)
  · simp [Sub, lk, cR, tab_nil, intL]
  · obtain ⟨c, v3, v4⟩ := w
    simp only at hw
    by_cases hc : c < d
    · have hr := cR_facts (d := d) hm hl ha c
      have hx := at_bound hr.2 (by omega) (c + 1)
      have hlt : c + 1 < (cR m d l c).length := by rw [hr.1]; omega
      have hsn : tab c (fun c => at' (cR m d l c) (c + 1)) ++ [at' (cR m d l c) (c + 1)] = tab (c + 1) (fun c => at' (cR m d l c) (c + 1)) := tab_succ _ _
      have hG := c_impl_Series_geometric m (at' (cR m d l c) (c + 1)) l (c + 1) (by omega) (by omega) (by omega) hm2 hx.1 hx.2 (by omega) (by omega)
      rw [hl, Nat.add_sub_cancel] at hG
      have hIv := c_impl_Series_inverse m (geo m (at' (cR m d l c) (c + 1)) (c + 1) d) d hm hm2 (geo_num (by omega)) (geo_length _ _ _ _) (by omega)
      rw [inv_geo hm hx (by omega)] at hIv
      have hT := c_impl_Series_times m (cR m d l c) (omL m (at' (cR m d l c) (c + 1)) (c + 1) d) d (by omega) hm2 hr.2 (omL_num hm) hr.1 (omL_length _ _ _ _) (by omega)
      cases v4 with
      | none =>
        (repeat (first | ((with_reducible refine rgn_cons rfl (fun K hK => ?_)); simp only [go_sem, seval, ↓reduceIte, decide_true, decide_false, show ((c + 1 : Nat) : Int) ≤ (d : Int) by omega, hr.1, show ((c + 1 : Nat) : Int) < ((d + 1 : Nat) : Int) by omega, Int.toNat_natCast, Int.natCast_nonneg, Nat.mul_one, intL_getD _ (c + 1) hlt, show (cR m d l c).getD (c + 1) 0 = at' (cR m d l c) (c + 1) from rfl, tab_length, intL_snoc, hsn, show c + 1 ≤ 1099511627776 by omega, show (c + 1) * 8 ≤ 140737488355328 by omega, wid (((c + 1 : Nat) : Int) + 1) (by omega) (by omega)]; (first | refine hK _ _ _ (by simp only [go_sem, Nat.reduceEqDiff, ↓reduceIte]; rfl) ?_ | refine ⟨_, hdg, hK _ _ _ (by simp only [go_sem, Nat.reduceEqDiff, ↓reduceIte]; rfl) ?_⟩ | refine ⟨_, hG, hK _ _ _ (by simp only [go_sem, Nat.reduceEqDiff, ↓reduceIte]; rfl) ?_⟩ | refine ⟨_, hIv, hK _ _ _ (by simp only [go_sem, Nat.reduceEqDiff, ↓reduceIte]; rfl) ?_⟩ | refine ⟨_, hT, hK _ _ _ (by simp only [go_sem, Nat.reduceEqDiff, ↓reduceIte]; rfl) ?_⟩); clear hK; clear K) | (with_reducible first | refine rgn_nil (by first | trivial | kernel_rfl) ?_ | refine AWP.seq ?_ | refine tX hC hP (by kernel_rfl) ?_ | refine aX hC hM hP (by kernel_rfl) ?_ | refine AWP.skip ?_ | refine AWP.label ?_ | refine AWP.exit ?_ | refine AWP.block ?_ | refine cTa ?_ | refine cFa ?_) | simp only [qS, Nat.reduceEqDiff, ↓reduceIte]))
        exact ⟨(c + 1, v3 + 1, some 3), by simp only; omega, by simp only; omega, by simp [Sub, lk, cR]⟩
      | some v4 =>
        (repeat (first | ((with_reducible refine rgn_cons rfl (fun K hK => ?_)); simp only [go_sem, seval, ↓reduceIte, decide_true, decide_false, show ((c + 1 : Nat) : Int) ≤ (d : Int) by omega, hr.1, show ((c + 1 : Nat) : Int) < ((d + 1 : Nat) : Int) by omega, Int.toNat_natCast, Int.natCast_nonneg, Nat.mul_one, intL_get _ (c + 1) hlt, sizeL_take _ (c + 1) (Nat.le_of_lt hlt), show (cR m d l c).getD (c + 1) 0 = at' (cR m d l c) (c + 1) from rfl, tab_length, intL_snoc, hsn, show c + 1 ≤ 1099511627776 by omega, show (c + 1) * 8 ≤ 140737488355328 by omega, wid (((c + 1 : Nat) : Int) + 1) (by omega) (by omega)]; (first | refine hK _ _ _ (by simp only [go_sem, Nat.reduceEqDiff, ↓reduceIte]; rfl) ?_ | refine ⟨_, hdg, hK _ _ _ (by simp only [go_sem, Nat.reduceEqDiff, ↓reduceIte]; rfl) ?_⟩ | refine ⟨_, hG, hK _ _ _ (by simp only [go_sem, Nat.reduceEqDiff, ↓reduceIte]; rfl) ?_⟩ | refine ⟨_, hIv, hK _ _ _ (by simp only [go_sem, Nat.reduceEqDiff, ↓reduceIte]; rfl) ?_⟩ | refine ⟨_, hT, hK _ _ _ (by simp only [go_sem, Nat.reduceEqDiff, ↓reduceIte]; rfl) ?_⟩); clear hK; clear K) | (with_reducible first | refine rgn_nil (by first | trivial | kernel_rfl) ?_ | refine AWP.seq ?_ | refine tX hC hP (by kernel_rfl) ?_ | refine aX hC hM hP (by kernel_rfl) ?_ | refine AWP.skip ?_ | refine AWP.label ?_ | refine AWP.exit ?_ | refine AWP.block ?_ | refine cTa ?_ | refine cFa ?_) | simp only [qS, Nat.reduceEqDiff, ↓reduceIte]))
        exact ⟨(c + 1, v3 + 1, some (v4 + 1)), by simp only; omega, by simp only; omega, by simp [Sub, lk, cR]⟩
    · cases v4 with
      | none =>
        (repeat (first | ((with_reducible refine rgn_cons rfl (fun K hK => ?_)); simp only [go_sem, seval, ↓reduceIte, decide_true, decide_false, show ¬ ((c + 1 : Nat) : Int) ≤ (d : Int) by omega, decide_false]; (first | refine hK _ _ _ (by simp only [go_sem, Nat.reduceEqDiff, ↓reduceIte]; rfl) ?_ | refine ⟨_, hdg, hK _ _ _ (by simp only [go_sem, Nat.reduceEqDiff, ↓reduceIte]; rfl) ?_⟩); clear hK; clear K) | (with_reducible first | refine rgn_nil (by first | trivial | kernel_rfl) ?_ | refine AWP.seq ?_ | refine tX hC hP (by kernel_rfl) ?_ | refine aX hC hM hP (by kernel_rfl) ?_ | refine AWP.skip ?_ | refine AWP.label ?_ | refine AWP.exit ?_ | refine AWP.block ?_ | refine cTa ?_ | refine cFa ?_) | simp only [qS, Nat.reduceEqDiff, ↓reduceIte]))
        (refine AWP.ret ?_; refine retOk1 (by simp only [go_sem, seval, ↓reduceIte, decide_true, decide_false]; rfl) ?_)
        rw [show c = d by omega]; rfl
      | some v4 =>
        (repeat (first | ((with_reducible refine rgn_cons rfl (fun K hK => ?_)); simp only [go_sem, seval, ↓reduceIte, decide_true, decide_false, show ¬ ((c + 1 : Nat) : Int) ≤ (d : Int) by omega, decide_false]; (first | refine hK _ _ _ (by simp only [go_sem, Nat.reduceEqDiff, ↓reduceIte]; rfl) ?_ | refine ⟨_, hdg, hK _ _ _ (by simp only [go_sem, Nat.reduceEqDiff, ↓reduceIte]; rfl) ?_⟩); clear hK; clear K) | (with_reducible first | refine rgn_nil (by first | trivial | kernel_rfl) ?_ | refine AWP.seq ?_ | refine tX hC hP (by kernel_rfl) ?_ | refine aX hC hM hP (by kernel_rfl) ?_ | refine AWP.skip ?_ | refine AWP.label ?_ | refine AWP.exit ?_ | refine AWP.block ?_ | refine cTa ?_ | refine cFa ?_) | simp only [qS, Nat.reduceEqDiff, ↓reduceIte]))
        (refine AWP.ret ?_; refine retOk1 (by simp only [go_sem, seval, ↓reduceIte, decide_true, decide_false]; rfl) ?_)
        rw [show c = d by omega]; rfl
-- Ghost components.
-- Frobenius of big vectors.
def froC (m : Int) (l : List Int) (n : Int) : Int := if isBig m l = true then (if (decide (1 ≤ n) && decide (n ≤ 10)) = true then (if (l.length : Int) - 1 < n then 5 else 0) else 2) else 1
theorem froC_zero {m : Int} {l : List Int} {n : Int} (h : froC m l n = 0) : isBig m l = true ∧ 1 ≤ n ∧ n ≤ 10 ∧ n ≤ (l.length : Int) - 1 := by
  unfold froC at h
  split at h
  · rename_i h1
    split at h
    · rename_i h2
      split at h
      · cases h
      · simp only [Bool.and_eq_true, decide_eq_true_eq] at h2
        exact ⟨h1, h2.1, h2.2, by omega⟩
    · cases h
  · cases h
set_option maxHeartbeats 2000000 in
theorem c_impl_FrobeniusOfBig_ok (m n : Int) (l : List Int) (hl : l.length ≤ 1099511627776) (h : froC m l n = 0) : AFn Try.prog 12 [.agg [.int .i64 m, .sl false 2 (intL l)], .int .i64 n] (.tup [.agg [.int .i64 m, .sl true 2 (intL (fL m n.toNat ((l.length - 1) / n.toNat) (cL m l (l.length - 1)) (l.length - 1)))], .int .i64 (froC m l n)]) := by
  refine AFn.of' ttOk (by decide) Try.func12 Try.ntmps12 (by rw [Try.results12]) (by rfl) (by rfl) (by simp) (by decide) (by simp only [go_sem, Nat.reduceAdd, ↓reduceIte]; rfl) mixed (fun C hP hM hC => ?_)
  have hz := froC_zero h
  have f := isBig_facts hz.1
  obtain ⟨d, hd⟩ : ∃ d, l.length = d + 1 := ⟨l.length - 1, by omega⟩
  obtain ⟨N, rfl⟩ : ∃ N : Nat, n = N := ⟨n.toNat, by omega⟩
  have hdd : (decide ((1 : Int) ≤ (N : Int)) && decide ((N : Int) ≤ 10)) = true := by simp [hz]
  obtain ⟨e, he⟩ : ∃ e, d / N = e := ⟨_, rfl⟩
  have he1 : e ≤ d := he ▸ Nat.div_le_self _ _
  have hcn := cL_num (d := d) (show 1 < m by omega) hd f.2.2.2.2.1
  have hcl := cL_length m l d
  have hA := c_impl_IsBigVector m l hl
  rw [hz.1] at hA
  have hCo := c_impl_Series_coordinates m l d (by omega) (by omega) f.2.2.2.2.1 hd (by omega)
  have hdg := c_impl_Series_degree m l hl
  rw [hd, show ((d + 1 : Nat) : Int) - 1 = (d : Int) by omega] at hdg
  have e1 : (1 : Int) % m = 1 := Int.emod_eq_of_lt (by omega) (by omega)
  have hcs := c_impl_Series_constant m (tab (e + 1) (fun _ => 0)) 1 (by rw [tab_length]; omega) (by rw [tab_length]; omega) (by omega) (by omega)
  rw [e1, tab_length, oneL_of] at hcs
  rw [Int.toNat_natCast, show l.length - 1 = d by omega, he]
  generalize cL m l d = x at hCo hcn hcl
  (repeat (first | ((with_reducible refine rgn_cons rfl (fun K hK => ?_)); simp only [go_sem, seval, ↓reduceIte, decide_true, decide_false, hdd, show ¬ (d : Int) < (N : Int) by omega, decide_false, nat_tdiv, he, widN e (by omega), show (N : Int) ≠ 0 by omega, hcl]; (first | refine hK _ _ _ (by simp only [go_sem, Nat.reduceEqDiff, ↓reduceIte]; rfl) ?_ | refine ⟨_, hA, hK _ _ _ (by simp only [go_sem, Nat.reduceEqDiff, ↓reduceIte]; rfl) ?_⟩ | refine ⟨_, c_impl_in _ _ _, hK _ _ _ (by simp only [go_sem, Nat.reduceEqDiff, ↓reduceIte]; rfl) ?_⟩ | refine ⟨_, hdg, hK _ _ _ (by simp only [go_sem, Nat.reduceEqDiff, ↓reduceIte]; rfl) ?_⟩ | refine ⟨_, hCo, hK _ _ _ (by simp only [go_sem, Nat.reduceEqDiff, ↓reduceIte]; rfl) ?_⟩ | refine ⟨_, c_impl_zero m (e : Int) (e + 1) (by omega) (by omega), hK _ _ _ (by simp only [go_sem, Nat.reduceEqDiff, ↓reduceIte]; rfl) ?_⟩ | refine ⟨_, hcs, hK _ _ _ (by simp only [go_sem, Nat.reduceEqDiff, ↓reduceIte]; rfl) ?_⟩); clear hK; clear K) | (with_reducible first | refine rgn_nil (by first | trivial | kernel_rfl) ?_ | refine AWP.seq ?_ | refine tX hC hP (by kernel_rfl) ?_ | refine aX hC hM hP (by kernel_rfl) ?_ | refine AWP.skip ?_ | refine AWP.label ?_ | refine AWP.exit ?_ | refine AWP.block ?_ | refine cTa ?_ | refine cFa ?_) | simp only [qS, Nat.reduceEqDiff, ↓reduceIte]))
  refine AWP.loop (fun w : Nat × Nat => [(38, ⟨0, .val (.int .i64 w.1)⟩), (37, ⟨0, .val (.int .i64 d)⟩), (36, ⟨1, .own (.sl true 2 (intL x))⟩), (6, ⟨w.2, .own (.box 36 (.agg [.int .i64 m, .sl true 2 (intL (fL m N e x w.1))]))⟩), (4, ⟨1, .own (.box 36 (.agg [.int .i64 0, .nil]))⟩), (2, ⟨1, .own (.box 36 (.agg [.int .i64 m, .sl false 2 (intL l)]))⟩), (1, ⟨0, .val (.int .i64 N)⟩)]) (fun w => w.1 ≤ d) (fun w => d - w.1) (0, 2) (Nat.zero_le _) (fun i => rfl) ?_ (fun w hw => ?_)
  · simp [Sub, lk, fL]
  · obtain ⟨c, v⟩ := w
    simp only at hw ⊢
    by_cases hc : c < d
    · have hgc := c_impl_gcd N (c + 1) (by omega) (by omega)
      have hx := at_bound hcn (by omega) c
      have hlt : c < x.length := by omega
      obtain ⟨g, hg⟩ : ∃ g, Nat.gcd N (c + 1) = g := ⟨_, rfl⟩
      have hg0 : 0 < g := hg ▸ Nat.gcd_pos_of_pos_right _ (by omega)
      have hg1 : g ≤ N := hg ▸ Nat.gcd_le_left _ (by omega)
      have hgd : g ∣ c + 1 := hg ▸ Nat.gcd_dvd_right _ _
      obtain ⟨p, hp⟩ : ∃ p, N / g = p := ⟨_, rfl⟩
      have hp1 : p ≤ N := hp ▸ Nat.div_le_self _ _
      obtain ⟨q, hq⟩ : ∃ q, (c + 1) / g = q := ⟨_, rfl⟩
      have hq0 : 0 < q := hq ▸ Nat.div_pos (Nat.le_of_dvd (by omega) hgd) hg0
      have hq1 : q ≤ c + 1 := hq ▸ Nat.div_le_self _ _
      have hpw := emod_b (at' x c ^ p) m (by omega)
      have ho := fL_facts (show 1 < m by omega) N e x c
      rw [hg, show ((c + 1 : Nat) : Int) = (c : Int) + 1 by omega] at hgc
      have htd : ((c : Int) + 1).tdiv (g : Int) = (q : Int) := by rw [show (c : Int) + 1 = ((c + 1 : Nat) : Int) by omega, nat_tdiv, hq]
      have hdo := c_impl_Series_degree m (fL m N e x c) (by omega)
      rw [ho.1, show ((e + 1 : Nat) : Int) - 1 = (e : Int) by omega] at hdo
      by_cases hqe : q ≤ e
      · have hs : fL m N e x (c + 1) = timesL m (fL m N e x c) (powL m (geo m (at' x c ^ p % m) q e) g e) e := by simp only [fL, hg, hq, hp, if_pos hqe]
        have hP2 := c_impl_power m (at' x c) p (by omega) (by omega) hx.1 hx.2 (by omega)
        have hG := c_impl_Series_geometric m (at' x c ^ p % m) (fL m N e x c) q (by omega) (by omega) (by omega) (by omega) hpw.1 hpw.2 hq0 (by omega)
        rw [ho.1, Nat.add_sub_cancel] at hG
        have hPo := c_impl_Series_power m (geo m (at' x c ^ p % m) q e) g e (by omega) (by omega) (geo_num (by omega)) (geo_length _ _ _ _) (by omega) (by omega)
        have hT := c_impl_Series_times m (fL m N e x c) (powL m (geo m (at' x c ^ p % m) q e) g e) e (by omega) (by omega) ho.2 (powL_num (by omega) _ _ _) ho.1 (powL_length (by omega) _ _ _) (by omega)
        (repeat (first | ((with_reducible refine rgn_cons rfl (fun K hK => ?_)); simp only [go_sem, seval, ↓reduceIte, decide_true, decide_false, show (c : Int) < (d : Int) by omega, hcl, htd, nat_tdiv, hp, show (g : Int) ≠ 0 by omega, widN q (by omega), widN p (by omega), show (q : Int) ≤ (e : Int) by omega, Int.toNat_natCast, Int.natCast_nonneg, Nat.mul_one, intL_get x c hlt, sizeL_take x c (by omega), show x.getD c 0 = at' x c from rfl, wid ((c : Int) + 1) (by omega) (by omega)]; (first | refine hK _ _ _ (by simp only [go_sem, Nat.reduceEqDiff, ↓reduceIte]; rfl) ?_ | refine ⟨_, hgc, hK _ _ _ (by simp only [go_sem, Nat.reduceEqDiff, ↓reduceIte]; rfl) ?_⟩ | refine ⟨_, hdo, hK _ _ _ (by simp only [go_sem, Nat.reduceEqDiff, ↓reduceIte]; rfl) ?_⟩ | refine ⟨_, hP2, hK _ _ _ (by simp only [go_sem, Nat.reduceEqDiff, ↓reduceIte]; rfl) ?_⟩ | refine ⟨_, hG, hK _ _ _ (by simp only [go_sem, Nat.reduceEqDiff, ↓reduceIte]; rfl) ?_⟩ | refine ⟨_, hPo, hK _ _ _ (by simp only [go_sem, Nat.reduceEqDiff, ↓reduceIte]; rfl) ?_⟩ | refine ⟨_, hT, hK _ _ _ (by simp only [go_sem, Nat.reduceEqDiff, ↓reduceIte]; rfl) ?_⟩); clear hK; clear K) | (with_reducible first | refine rgn_nil (by first | trivial | kernel_rfl) ?_ | refine AWP.seq ?_ | refine tX hC hP (by kernel_rfl) ?_ | refine aX hC hM hP (by kernel_rfl) ?_ | refine AWP.skip ?_ | refine AWP.label ?_ | refine AWP.exit ?_ | refine AWP.block ?_ | refine cTa ?_ | refine cFa ?_) | simp only [qS, Nat.reduceEqDiff, ↓reduceIte]))
        exact ⟨(c + 1, v + 1), by simp only; omega, by simp only; omega, by simp [Sub, lk, hs]⟩
      · have hs : fL m N e x (c + 1) = fL m N e x c := by simp only [fL, hg, hq, if_neg hqe]
        (repeat (first | ((with_reducible refine rgn_cons rfl (fun K hK => ?_)); simp only [go_sem, seval, ↓reduceIte, decide_true, decide_false, show (c : Int) < (d : Int) by omega, hcl, htd, show (g : Int) ≠ 0 by omega, widN q (by omega), show ¬ (q : Int) ≤ (e : Int) by omega, decide_false, Int.toNat_natCast, Int.natCast_nonneg, Nat.mul_one, intL_get x c hlt, sizeL_take x c (by omega), show x.getD c 0 = at' x c from rfl, wid ((c : Int) + 1) (by omega) (by omega)]; (first | refine hK _ _ _ (by simp only [go_sem, Nat.reduceEqDiff, ↓reduceIte]; rfl) ?_ | refine ⟨_, hgc, hK _ _ _ (by simp only [go_sem, Nat.reduceEqDiff, ↓reduceIte]; rfl) ?_⟩ | refine ⟨_, hdo, hK _ _ _ (by simp only [go_sem, Nat.reduceEqDiff, ↓reduceIte]; rfl) ?_⟩); clear hK; clear K) | (with_reducible first | refine rgn_nil (by first | trivial | kernel_rfl) ?_ | refine AWP.seq ?_ | refine tX hC hP (by kernel_rfl) ?_ | refine aX hC hM hP (by kernel_rfl) ?_ | refine AWP.skip ?_ | refine AWP.label ?_ | refine AWP.exit ?_ | refine AWP.block ?_ | refine cTa ?_ | refine cFa ?_) | simp only [qS, Nat.reduceEqDiff, ↓reduceIte]))
        exact ⟨(c + 1, v), by simp only; omega, by simp only; omega, by simp [Sub, lk, hs]⟩
    · (repeat (first | ((with_reducible refine rgn_cons rfl (fun K hK => ?_)); simp only [go_sem, seval, ↓reduceIte, decide_true, decide_false, show ¬ (c : Int) < (d : Int) by omega, decide_false]; (refine hK _ _ _ (by simp only [go_sem, Nat.reduceEqDiff, ↓reduceIte]; rfl) ?_); clear hK; clear K) | (with_reducible first | refine rgn_nil (by first | trivial | kernel_rfl) ?_ | refine AWP.seq ?_ | refine tX hC hP (by kernel_rfl) ?_ | refine aX hC hM hP (by kernel_rfl) ?_ | refine AWP.skip ?_ | refine AWP.label ?_ | refine AWP.exit ?_ | refine AWP.block ?_ | refine cTa ?_ | refine cFa ?_) | simp only [qS, Nat.reduceEqDiff, ↓reduceIte]))
      (refine AWP.ret ?_; refine retOk2 (by simp only [go_sem, seval, ↓reduceIte, decide_true, decide_false]; rfl) (by simp only [go_sem, seval, ↓reduceIte, decide_true, decide_false]; rfl) (by simp) ?_)
      rw [show c = d by omega, h]
-- Products of big vectors.
end Go.Proofs.Ytahnnangdepkbaa
