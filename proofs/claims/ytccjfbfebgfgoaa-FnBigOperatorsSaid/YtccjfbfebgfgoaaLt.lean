/-
  Frobenius of big vectors.
-/
import Derived.Test.YtccjfbfebgfgoaaLs
import Derived.Test.YtccjfbfebgfgoaaPi
namespace Go.Proofs.Ytccjfbfebgfgoaa
open Go.RowKit
set_option linter.unusedSimpArgs false
set_option linter.unusedVariables false
set_option linter.unusedSectionVars false
set_option maxRecDepth 20000
-- Frobenius of big vectors.
def froC (m : Int) (l : List Int) (n : Int) : Int := if isBig m l = true then (if (decide (1 ≤ n) && decide (n ≤ 10)) = true then (if (l.length : Int) - 1 < n then 5 else 0) else 2) else 1
theorem froC_zero {m : Int} {l : List Int} {n : Int} (h : froC m l n = 0) : isBig m l = true ∧ 1 ≤ n ∧ n ≤ 10 ∧ n ≤ (l.length : Int) - 1 := by
  unfold froC at h
  split at h
  · rename_i h1
    split at h
    · rename_i h2
      split at h
      · cases h
      · simp only [Bool.and_eq_true, decide_eq_true_eq] at h2
        exact ⟨h1, h2.1, h2.2, by omega⟩
    · cases h
  · cases h
set_option maxHeartbeats 2000000 in
theorem c_spec_FrobeniusOfBig_ok (m n : Int) (l : List Int) (hl : l.length ≤ 1099511627776) (h : froC m l n = 0) : AFn Try.prog 29 [.agg [.int .i64 m, .sl false 2 (intL l)], .int .i64 n] (.tup [.agg [.int .i64 m, .sl true 2 (intL (fL m n.toNat ((l.length - 1) / n.toNat) (cL m l (l.length - 1)) (l.length - 1)))], .int .i64 (froC m l n)]) := by
  refine AFn.of' ttOk (by decide) Try.func29 Try.ntmps29 (by rw [Try.results29]) (by rfl) (by rfl) (by simp) (by decide) (by simp only [go_sem, Nat.reduceAdd, ↓reduceIte]; rfl) mixed (fun C hP hM hC => ?_)
  have hz := froC_zero h
  have f := isBig_facts hz.1
  obtain ⟨d, hd⟩ : ∃ d, l.length = d + 1 := ⟨l.length - 1, by omega⟩
  obtain ⟨N, rfl⟩ : ∃ N : Nat, n = N := ⟨n.toNat, by omega⟩
  have hdd : (decide ((1 : Int) ≤ (N : Int)) && decide ((N : Int) ≤ 10)) = true := by simp [hz]
  obtain ⟨e, he⟩ : ∃ e, d / N = e := ⟨_, rfl⟩
  have he1 : e ≤ d := he ▸ Nat.div_le_self _ _
  have hcn := cL_num (d := d) (show 1 < m by omega) hd f.2.2.2.2.1
  have hcl := cL_length m l d
  have hA := c_spec_l14Is m l hl
  rw [hz.1] at hA
  have hCo := c_spec_l14Coordinates m l d (by omega) (by omega) f.2.2.2.2.1 hd (by omega)
  have hdg := c_spec_l02Degree m l hl
  rw [hd, show ((d + 1 : Nat) : Int) - 1 = (d : Int) by omega] at hdg
  rw [Int.toNat_natCast, show l.length - 1 = d by omega, he]
  generalize cL m l d = x at hCo hcn hcl
  have h0 : 0 < (tab (e + 1) (fun _ => 0)).length := by rw [tab_length]; omega
  (repeat (first | ((with_reducible refine rgn_cons rfl (fun K hK => ?_)); simp only [go_sem, seval, ↓reduceIte, decide_true, decide_false, hdd, show ¬ (d : Int) < (N : Int) by omega, decide_false, nat_tdiv, he, widN e (by omega), show (N : Int) ≠ 0 by omega, wid ((e : Int) + 1) (by omega) (by omega), show (0 : Int) ≤ (e : Int) + 1 by omega, show ((e : Int) + 1).toNat = e + 1 by omega, show (e : Int) + 1 ≤ 1099511627776 by omega, intL_replicate, tab_zero, tab_length, Int.le_refl, Int.toNat_zero, show (0 : Int) < ((e + 1 : Nat) : Int) by omega, intL_get _ _ h0, List.take_zero, Nat.zero_mul, intL_modify, tab_set, oneL_of]; (first | refine hK _ _ _ (by simp only [go_sem, Nat.reduceEqDiff, ↓reduceIte]; rfl) ?_ | refine ⟨_, hA, hK _ _ _ (by simp only [go_sem, Nat.reduceEqDiff, ↓reduceIte]; rfl) ?_⟩ | refine ⟨_, c_spec_l01In _ _ _, hK _ _ _ (by simp only [go_sem, Nat.reduceEqDiff, ↓reduceIte]; rfl) ?_⟩ | refine ⟨_, hdg, hK _ _ _ (by simp only [go_sem, Nat.reduceEqDiff, ↓reduceIte]; rfl) ?_⟩ | refine ⟨_, hCo, hK _ _ _ (by simp only [go_sem, Nat.reduceEqDiff, ↓reduceIte]; rfl) ?_⟩); clear hK; clear K) | (with_reducible first | refine rgn_nil (by first | trivial | kernel_rfl) ?_ | refine AWP.seq ?_ | refine tX hC hP (by kernel_rfl) ?_ | refine aX hC hM hP (by kernel_rfl) ?_ | refine AWP.skip ?_ | refine AWP.label ?_ | refine AWP.exit ?_ | refine AWP.block ?_ | refine cT (by simp only [go_sem, Nat.reduceEqDiff, ↓reduceIte]; with_reducible rfl) ?_ | refine cF (by simp only [go_sem, Nat.reduceEqDiff, ↓reduceIte]; with_reducible rfl) ?_) | simp only [qS, Nat.reduceEqDiff, ↓reduceIte]))
  refine AWP.loop (fun w : Nat × Nat => [(10, ⟨0, .val (.int .i64 (w.1 + 1 : Nat))⟩), (9, ⟨w.2, .own (.sl true 2 (intL (fL m N e x w.1)))⟩), (8, ⟨1, .own (.sl true 2 (intL x))⟩), (7, ⟨0, .val (.int .i64 e)⟩), (6, ⟨0, .val (.int .i64 m)⟩), (4, ⟨1, .own (.box 26 (.agg [.int .i64 0, .nil]))⟩), (1, ⟨0, .val (.int .i64 N)⟩)]) (fun w => w.1 ≤ d) (fun w => d - w.1) (0, 1) (Nat.zero_le _) (fun i => rfl) ?_ (fun w hw => ?_)
  · simp [Sub, lk, fL]
  · obtain ⟨c, v⟩ := w
    simp only at hw ⊢
    by_cases hc : c < d
    · have hgc := c_spec_l01Gcd N (c + 1) (by omega) (by omega)
      have hx := at_bound hcn (by omega) c
      have hlt : c < x.length := by omega
      obtain ⟨g, hg⟩ : ∃ g, Nat.gcd N (c + 1) = g := ⟨_, rfl⟩
      have hg0 : 0 < g := hg ▸ Nat.gcd_pos_of_pos_right _ (by omega)
      have hg1 : g ≤ N := hg ▸ Nat.gcd_le_left _ (by omega)
      have hgd : g ∣ c + 1 := hg ▸ Nat.gcd_dvd_right _ _
      obtain ⟨p, hp⟩ : ∃ p, N / g = p := ⟨_, rfl⟩
      have hp1 : p ≤ N := hp ▸ Nat.div_le_self _ _
      obtain ⟨q, hq⟩ : ∃ q, (c + 1) / g = q := ⟨_, rfl⟩
      have hq0 : 0 < q := hq ▸ Nat.div_pos (Nat.le_of_dvd (by omega) hgd) hg0
      have hq1 : q ≤ c + 1 := hq ▸ Nat.div_le_self _ _
      have hpw := emod_b (at' x c ^ p) m (by omega)
      have ho := fL_facts (show 1 < m by omega) N e x c
      rw [hg] at hgc
      by_cases hqe : q ≤ e
      · have hs : fL m N e x (c + 1) = timesL m (fL m N e x c) (powL m (geo m (at' x c ^ p % m) q e) g e) e := by simp only [fL, hg, hq, hp, if_pos hqe]
        have hP2 := c_spec_l01Pow m (at' x c) p (by omega) (by omega) (by omega)
        have hG := c_spec_l14One m (at' x c ^ p % m) q e (by omega) (by omega) hpw.1 hpw.2 hq0 (by omega) (by omega)
        have hPo := c_spec_l02Power m (geo m (at' x c ^ p % m) q e) g e (by omega) (by omega) (geo_num (by omega)) (by rw [geo_length]; omega) (by omega) (by omega)
        have hT := c_spec_l02Times m (fL m N e x c) (powL m (geo m (at' x c ^ p % m) q e) g e) e (by omega) (by omega) ho.2 (powL_num (by omega) _ _ _) (by omega) (by rw [powL_length (by omega)]; omega) (by omega)
        (repeat (first | ((with_reducible refine rgn_cons rfl (fun K hK => ?_)); simp only [go_sem, seval, ↓reduceIte, decide_true, decide_false, show ((c + 1 : Nat) : Int) ≤ (d : Int) by omega, hcl, nat_tdiv, hq, hp, show (g : Int) ≠ 0 by omega, widN q (by omega), widN p (by omega), show (q : Int) ≤ (e : Int) by omega, wid (((c + 1 : Nat) : Int) - 1) (by omega) (by omega), show (0 : Int) ≤ ((c + 1 : Nat) : Int) - 1 by omega, show ((c + 1 : Nat) : Int) - 1 < (d : Int) by omega, show (((c + 1 : Nat) : Int) - 1).toNat = c by omega, Nat.mul_one, intL_get x c hlt, sizeL_take x c (by omega), show x.getD c 0 = at' x c from rfl, wid (((c + 1 : Nat) : Int) + 1) (by omega) (by omega)]; (first | refine hK _ _ _ (by simp only [go_sem, Nat.reduceEqDiff, ↓reduceIte]; rfl) ?_ | refine ⟨_, hgc, hK _ _ _ (by simp only [go_sem, Nat.reduceEqDiff, ↓reduceIte]; rfl) ?_⟩ | refine ⟨_, hP2, hK _ _ _ (by simp only [go_sem, Nat.reduceEqDiff, ↓reduceIte]; rfl) ?_⟩ | refine ⟨_, hG, hK _ _ _ (by simp only [go_sem, Nat.reduceEqDiff, ↓reduceIte]; rfl) ?_⟩ | refine ⟨_, hPo, hK _ _ _ (by simp only [go_sem, Nat.reduceEqDiff, ↓reduceIte]; rfl) ?_⟩ | refine ⟨_, hT, hK _ _ _ (by simp only [go_sem, Nat.reduceEqDiff, ↓reduceIte]; rfl) ?_⟩); clear hK; clear K) | (with_reducible first | refine rgn_nil (by first | trivial | kernel_rfl) ?_ | refine AWP.seq ?_ | refine tX hC hP (by kernel_rfl) ?_ | refine aX hC hM hP (by kernel_rfl) ?_ | refine AWP.skip ?_ | refine AWP.label ?_ | refine AWP.exit ?_ | refine AWP.block ?_ | refine cT (by simp only [go_sem, Nat.reduceEqDiff, ↓reduceIte]; with_reducible rfl) ?_ | refine cF (by simp only [go_sem, Nat.reduceEqDiff, ↓reduceIte]; with_reducible rfl) ?_) | simp only [qS, Nat.reduceEqDiff, ↓reduceIte]))
        exact ⟨(c + 1, v + 1), by simp only; omega, by simp only; omega, by simp [Sub, lk, hs]⟩
      · have hs : fL m N e x (c + 1) = fL m N e x c := by simp only [fL, hg, hq, if_neg hqe]
        (repeat (first | ((with_reducible refine rgn_cons rfl (fun K hK => ?_)); simp only [go_sem, seval, ↓reduceIte, decide_true, decide_false, show ((c + 1 : Nat) : Int) ≤ (d : Int) by omega, hcl, nat_tdiv, hq, show (g : Int) ≠ 0 by omega, widN q (by omega), show ¬ (q : Int) ≤ (e : Int) by omega, decide_false, wid (((c + 1 : Nat) : Int) + 1) (by omega) (by omega)]; (first | refine hK _ _ _ (by simp only [go_sem, Nat.reduceEqDiff, ↓reduceIte]; rfl) ?_ | refine ⟨_, hgc, hK _ _ _ (by simp only [go_sem, Nat.reduceEqDiff, ↓reduceIte]; rfl) ?_⟩); clear hK; clear K) | (with_reducible first | refine rgn_nil (by first | trivial | kernel_rfl) ?_ | refine AWP.seq ?_ | refine tX hC hP (by kernel_rfl) ?_ | refine aX hC hM hP (by kernel_rfl) ?_ | refine AWP.skip ?_ | refine AWP.label ?_ | refine AWP.exit ?_ | refine AWP.block ?_ | refine cT (by simp only [go_sem, Nat.reduceEqDiff, ↓reduceIte]; with_reducible rfl) ?_ | refine cF (by simp only [go_sem, Nat.reduceEqDiff, ↓reduceIte]; with_reducible rfl) ?_) | simp only [qS, Nat.reduceEqDiff, ↓reduceIte]))
        exact ⟨(c + 1, v), by simp only; omega, by simp only; omega, by simp [Sub, lk, hs]⟩
    · (repeat (first | ((with_reducible refine rgn_cons rfl (fun K hK => ?_)); simp only [go_sem, seval, ↓reduceIte, decide_true, decide_false, hcl, show ¬ ((c + 1 : Nat) : Int) ≤ (d : Int) by omega, decide_false]; (first | refine hK _ _ _ (by simp only [go_sem, Nat.reduceEqDiff, ↓reduceIte]; rfl) ?_ | refine ⟨_, c_spec_l02Make m _, hK _ _ _ (by simp only [go_sem, Nat.reduceEqDiff, ↓reduceIte]; rfl) ?_⟩); clear hK; clear K) | (with_reducible first | refine rgn_nil (by first | trivial | kernel_rfl) ?_ | refine AWP.seq ?_ | refine tX hC hP (by kernel_rfl) ?_ | refine aX hC hM hP (by kernel_rfl) ?_ | refine AWP.skip ?_ | refine AWP.label ?_ | refine AWP.exit ?_ | refine AWP.block ?_ | refine cT (by simp only [go_sem, Nat.reduceEqDiff, ↓reduceIte]; with_reducible rfl) ?_ | refine cF (by simp only [go_sem, Nat.reduceEqDiff, ↓reduceIte]; with_reducible rfl) ?_) | simp only [qS, Nat.reduceEqDiff, ↓reduceIte]))
      (refine AWP.ret ?_; first | refine retOk1 (by simp only [go_sem, seval, ↓reduceIte, decide_true, decide_false]; rfl) ?_ | refine retOk2 (by simp only [go_sem, seval, ↓reduceIte, decide_true, decide_false]; rfl) (by simp only [go_sem, seval, ↓reduceIte, decide_true, decide_false]; rfl) (by simp) ?_ | refine retOk3 (by simp only [go_sem, seval, ↓reduceIte, decide_true, decide_false]; rfl) (by simp only [go_sem, seval, ↓reduceIte, decide_true, decide_false]; rfl) (by simp only [go_sem, seval, ↓reduceIte, decide_true, decide_false]; rfl) (by simp) ?_)
      rw [show c = d by omega, h]
set_option maxHeartbeats 2000000 in
theorem c_impl_FrobeniusOfBig_ok (m n : Int) (l : List Int) (hl : l.length ≤ 1099511627776) (h : froC m l n = 0) : AFn Try.prog 25 [.agg [.int .i64 m, .sl false 2 (intL l)], .int .i64 n] (.tup [.agg [.int .i64 m, .sl true 2 (intL (fL m n.toNat ((l.length - 1) / n.toNat) (cL m l (l.length - 1)) (l.length - 1)))], .int .i64 (froC m l n)]) := by
  refine AFn.of' ttOk (by decide) Try.func25 Try.ntmps25 (by rw [Try.results25]) (by rfl) (by rfl) (by simp) (by decide) (by simp only [go_sem, Nat.reduceAdd, ↓reduceIte]; rfl) mixed (fun C hP hM hC => ?_)
  have hz := froC_zero h
  have f := isBig_facts hz.1
  obtain ⟨d, hd⟩ : ∃ d, l.length = d + 1 := ⟨l.length - 1, by omega⟩
  obtain ⟨N, rfl⟩ : ∃ N : Nat, n = N := ⟨n.toNat, by omega⟩
  have hdd : (decide ((1 : Int) ≤ (N : Int)) && decide ((N : Int) ≤ 10)) = true := by simp [hz]
  obtain ⟨e, he⟩ : ∃ e, d / N = e := ⟨_, rfl⟩
  have he1 : e ≤ d := he ▸ Nat.div_le_self _ _
  have hcn := cL_num (d := d) (show 1 < m by omega) hd f.2.2.2.2.1
  have hcl := cL_length m l d
  have hA := c_impl_IsBigVector m l hl
  rw [hz.1] at hA
  have hCo := c_impl_Series_coordinates m l d (by omega) (by omega) f.2.2.2.2.1 hd (by omega)
  have hdg := c_impl_Series_degree m l hl
  rw [hd, show ((d + 1 : Nat) : Int) - 1 = (d : Int) by omega] at hdg
  have e1 : (1 : Int) % m = 1 := Int.emod_eq_of_lt (by omega) (by omega)
  have hcs := c_impl_Series_constant m (tab (e + 1) (fun _ => 0)) 1 (by rw [tab_length]; omega) (by rw [tab_length]; omega) (by omega) (by omega)
  rw [e1, tab_length, oneL_of] at hcs
  rw [Int.toNat_natCast, show l.length - 1 = d by omega, he]
  generalize cL m l d = x at hCo hcn hcl
  (repeat (first | ((with_reducible refine rgn_cons rfl (fun K hK => ?_)); simp only [go_sem, seval, ↓reduceIte, decide_true, decide_false, hdd, show ¬ (d : Int) < (N : Int) by omega, decide_false, nat_tdiv, he, widN e (by omega), show (N : Int) ≠ 0 by omega, hcl]; (first | refine hK _ _ _ (by simp only [go_sem, Nat.reduceEqDiff, ↓reduceIte]; rfl) ?_ | refine ⟨_, hA, hK _ _ _ (by simp only [go_sem, Nat.reduceEqDiff, ↓reduceIte]; rfl) ?_⟩ | refine ⟨_, c_impl_in _ _ _, hK _ _ _ (by simp only [go_sem, Nat.reduceEqDiff, ↓reduceIte]; rfl) ?_⟩ | refine ⟨_, hdg, hK _ _ _ (by simp only [go_sem, Nat.reduceEqDiff, ↓reduceIte]; rfl) ?_⟩ | refine ⟨_, hCo, hK _ _ _ (by simp only [go_sem, Nat.reduceEqDiff, ↓reduceIte]; rfl) ?_⟩ | refine ⟨_, c_impl_zero m (e : Int) (e + 1) (by omega) (by omega), hK _ _ _ (by simp only [go_sem, Nat.reduceEqDiff, ↓reduceIte]; rfl) ?_⟩ | refine ⟨_, hcs, hK _ _ _ (by simp only [go_sem, Nat.reduceEqDiff, ↓reduceIte]; rfl) ?_⟩); clear hK; clear K) | (with_reducible first | refine rgn_nil (by first | trivial | kernel_rfl) ?_ | refine AWP.seq ?_ | refine tX hC hP (by kernel_rfl) ?_ | refine aX hC hM hP (by kernel_rfl) ?_ | refine AWP.skip ?_ | refine AWP.label ?_ | refine AWP.exit ?_ | refine AWP.block ?_ | refine cT (by simp only [go_sem, Nat.reduceEqDiff, ↓reduceIte]; with_reducible rfl) ?_ | refine cF (by simp only [go_sem, Nat.reduceEqDiff, ↓reduceIte]; with_reducible rfl) ?_) | simp only [qS, Nat.reduceEqDiff, ↓reduceIte]))
  refine AWP.loop (fun w : Nat × Nat => [(38, ⟨0, .val (.int .i64 w.1)⟩), (37, ⟨0, .val (.int .i64 d)⟩), (36, ⟨1, .own (.sl true 2 (intL x))⟩), (6, ⟨w.2, .own (.box 26 (.agg [.int .i64 m, .sl true 2 (intL (fL m N e x w.1))]))⟩), (4, ⟨1, .own (.box 26 (.agg [.int .i64 0, .nil]))⟩), (2, ⟨1, .own (.box 26 (.agg [.int .i64 m, .sl false 2 (intL l)]))⟩), (1, ⟨0, .val (.int .i64 N)⟩)]) (fun w => w.1 ≤ d) (fun w => d - w.1) (0, 2) (Nat.zero_le _) (fun i => rfl) ?_ (fun w hw => ?_)
  · simp [Sub, lk, fL]
  · obtain ⟨c, v⟩ := w
    simp only at hw ⊢
    by_cases hc : c < d
    · have hgc := c_impl_gcd N (c + 1) (by omega) (by omega)
      have hx := at_bound hcn (by omega) c
      have hlt : c < x.length := by omega
      obtain ⟨g, hg⟩ : ∃ g, Nat.gcd N (c + 1) = g := ⟨_, rfl⟩
      have hg0 : 0 < g := hg ▸ Nat.gcd_pos_of_pos_right _ (by omega)
      have hg1 : g ≤ N := hg ▸ Nat.gcd_le_left _ (by omega)
      have hgd : g ∣ c + 1 := hg ▸ Nat.gcd_dvd_right _ _
      obtain ⟨p, hp⟩ : ∃ p, N / g = p := ⟨_, rfl⟩
      have hp1 : p ≤ N := hp ▸ Nat.div_le_self _ _
      obtain ⟨q, hq⟩ : ∃ q, (c + 1) / g = q := ⟨_, rfl⟩
      have hq0 : 0 < q := hq ▸ Nat.div_pos (Nat.le_of_dvd (by omega) hgd) hg0
      have hq1 : q ≤ c + 1 := hq ▸ Nat.div_le_self _ _
      have hpw := emod_b (at' x c ^ p) m (by omega)
      have ho := fL_facts (show 1 < m by omega) N e x c
      rw [hg, show ((c + 1 : Nat) : Int) = (c : Int) + 1 by omega] at hgc
      have htd : ((c : Int) + 1).tdiv (g : Int) = (q : Int) := by rw [show (c : Int) + 1 = ((c + 1 : Nat) : Int) by omega, nat_tdiv, hq]
      have hdo := c_impl_Series_degree m (fL m N e x c) (by omega)
      rw [ho.1, show ((e + 1 : Nat) : Int) - 1 = (e : Int) by omega] at hdo
      by_cases hqe : q ≤ e
      · have hs : fL m N e x (c + 1) = timesL m (fL m N e x c) (powL m (geo m (at' x c ^ p % m) q e) g e) e := by simp only [fL, hg, hq, hp, if_pos hqe]
        have hP2 := c_impl_power m (at' x c) p (by omega) (by omega) hx.1 hx.2 (by omega)
        have hG := c_impl_Series_geometric m (at' x c ^ p % m) (fL m N e x c) q (by omega) (by omega) (by omega) (by omega) hpw.1 hpw.2 hq0 (by omega)
        rw [ho.1, Nat.add_sub_cancel] at hG
        have hPo := c_impl_Series_power m (geo m (at' x c ^ p % m) q e) g e (by omega) (by omega) (geo_num (by omega)) (geo_length _ _ _ _) (by omega) (by omega)
        have hT := c_impl_Series_times m (fL m N e x c) (powL m (geo m (at' x c ^ p % m) q e) g e) e (by omega) (by omega) ho.2 (powL_num (by omega) _ _ _) ho.1 (powL_length (by omega) _ _ _) (by omega)
        (repeat (first | ((with_reducible refine rgn_cons rfl (fun K hK => ?_)); simp only [go_sem, seval, ↓reduceIte, decide_true, decide_false, show (c : Int) < (d : Int) by omega, hcl, htd, nat_tdiv, hp, show (g : Int) ≠ 0 by omega, widN q (by omega), widN p (by omega), show (q : Int) ≤ (e : Int) by omega, Int.toNat_natCast, Int.natCast_nonneg, Nat.mul_one, intL_get x c hlt, sizeL_take x c (by omega), show x.getD c 0 = at' x c from rfl, wid ((c : Int) + 1) (by omega) (by omega)]; (first | refine hK _ _ _ (by simp only [go_sem, Nat.reduceEqDiff, ↓reduceIte]; rfl) ?_ | refine ⟨_, hgc, hK _ _ _ (by simp only [go_sem, Nat.reduceEqDiff, ↓reduceIte]; rfl) ?_⟩ | refine ⟨_, hdo, hK _ _ _ (by simp only [go_sem, Nat.reduceEqDiff, ↓reduceIte]; rfl) ?_⟩ | refine ⟨_, hP2, hK _ _ _ (by simp only [go_sem, Nat.reduceEqDiff, ↓reduceIte]; rfl) ?_⟩ | refine ⟨_, hG, hK _ _ _ (by simp only [go_sem, Nat.reduceEqDiff, ↓reduceIte]; rfl) ?_⟩ | refine ⟨_, hPo, hK _ _ _ (by simp only [go_sem, Nat.reduceEqDiff, ↓reduceIte]; rfl) ?_⟩ | refine ⟨_, hT, hK _ _ _ (by simp only [go_sem, Nat.reduceEqDiff, ↓reduceIte]; rfl) ?_⟩); clear hK; clear K) | (with_reducible first | refine rgn_nil (by first | trivial | kernel_rfl) ?_ | refine AWP.seq ?_ | refine tX hC hP (by kernel_rfl) ?_ | refine aX hC hM hP (by kernel_rfl) ?_ | refine AWP.skip ?_ | refine AWP.label ?_ | refine AWP.exit ?_ | refine AWP.block ?_ | refine cT (by simp only [go_sem, Nat.reduceEqDiff, ↓reduceIte]; with_reducible rfl) ?_ | refine cF (by simp only [go_sem, Nat.reduceEqDiff, ↓reduceIte]; with_reducible rfl) ?_) | simp only [qS, Nat.reduceEqDiff, ↓reduceIte]))
        exact ⟨(c + 1, v + 1), by simp only; omega, by simp only; omega, by simp [Sub, lk, hs]⟩
      · have hs : fL m N e x (c + 1) = fL m N e x c := by simp only [fL, hg, hq, if_neg hqe]
        (repeat (first | ((with_reducible refine rgn_cons rfl (fun K hK => ?_)); simp only [go_sem, seval, ↓reduceIte, decide_true, decide_false, show (c : Int) < (d : Int) by omega, hcl, htd, show (g : Int) ≠ 0 by omega, widN q (by omega), show ¬ (q : Int) ≤ (e : Int) by omega, decide_false, Int.toNat_natCast, Int.natCast_nonneg, Nat.mul_one, intL_get x c hlt, sizeL_take x c (by omega), show x.getD c 0 = at' x c from rfl, wid ((c : Int) + 1) (by omega) (by omega)]; (first | refine hK _ _ _ (by simp only [go_sem, Nat.reduceEqDiff, ↓reduceIte]; rfl) ?_ | refine ⟨_, hgc, hK _ _ _ (by simp only [go_sem, Nat.reduceEqDiff, ↓reduceIte]; rfl) ?_⟩ | refine ⟨_, hdo, hK _ _ _ (by simp only [go_sem, Nat.reduceEqDiff, ↓reduceIte]; rfl) ?_⟩); clear hK; clear K) | (with_reducible first | refine rgn_nil (by first | trivial | kernel_rfl) ?_ | refine AWP.seq ?_ | refine tX hC hP (by kernel_rfl) ?_ | refine aX hC hM hP (by kernel_rfl) ?_ | refine AWP.skip ?_ | refine AWP.label ?_ | refine AWP.exit ?_ | refine AWP.block ?_ | refine cT (by simp only [go_sem, Nat.reduceEqDiff, ↓reduceIte]; with_reducible rfl) ?_ | refine cF (by simp only [go_sem, Nat.reduceEqDiff, ↓reduceIte]; with_reducible rfl) ?_) | simp only [qS, Nat.reduceEqDiff, ↓reduceIte]))
        exact ⟨(c + 1, v), by simp only; omega, by simp only; omega, by simp [Sub, lk, hs]⟩
    · (repeat (first | ((with_reducible refine rgn_cons rfl (fun K hK => ?_)); simp only [go_sem, seval, ↓reduceIte, decide_true, decide_false, show ¬ (c : Int) < (d : Int) by omega, decide_false]; (refine hK _ _ _ (by simp only [go_sem, Nat.reduceEqDiff, ↓reduceIte]; rfl) ?_); clear hK; clear K) | (with_reducible first | refine rgn_nil (by first | trivial | kernel_rfl) ?_ | refine AWP.seq ?_ | refine tX hC hP (by kernel_rfl) ?_ | refine aX hC hM hP (by kernel_rfl) ?_ | refine AWP.skip ?_ | refine AWP.label ?_ | refine AWP.exit ?_ | refine AWP.block ?_ | refine cT (by simp only [go_sem, Nat.reduceEqDiff, ↓reduceIte]; with_reducible rfl) ?_ | refine cF (by simp only [go_sem, Nat.reduceEqDiff, ↓reduceIte]; with_reducible rfl) ?_) | simp only [qS, Nat.reduceEqDiff, ↓reduceIte]))
      (refine AWP.ret ?_; first | refine retOk1 (by simp only [go_sem, seval, ↓reduceIte, decide_true, decide_false]; rfl) ?_ | refine retOk2 (by simp only [go_sem, seval, ↓reduceIte, decide_true, decide_false]; rfl) (by simp only [go_sem, seval, ↓reduceIte, decide_true, decide_false]; rfl) (by simp) ?_ | refine retOk3 (by simp only [go_sem, seval, ↓reduceIte, decide_true, decide_false]; rfl) (by simp only [go_sem, seval, ↓reduceIte, decide_true, decide_false]; rfl) (by simp only [go_sem, seval, ↓reduceIte, decide_true, decide_false]; rfl) (by simp) ?_)
      rw [show c = d by omega, h]
theorem c_spec_FrobeniusOfBig_no (m n : Int) (l : List Int) (hl : l.length ≤ 1099511627776) (h : ¬ froC m l n = 0) : AFn Try.prog 29 [.agg [.int .i64 m, .sl false 2 (intL l)], .int .i64 n] (.tup [.agg [.int .i64 0, .nil], .int .i64 (froC m l n)]) := by
  refine AFn.of' ttOk (by decide) Try.func29 Try.ntmps29 (by rw [Try.results29]) (by rfl) (by rfl) (by simp) (by decide) (by simp only [go_sem, Nat.reduceAdd, ↓reduceIte]; rfl) mixed (fun C hP hM hC => ?_)
  have hA := c_spec_l14Is m l hl
  cases c1 : isBig m l with
  | false =>
    rw [c1] at hA
    (repeat (first | ((with_reducible refine rgn_cons rfl (fun K hK => ?_)); simp only [go_sem, seval, ↓reduceIte, decide_true, decide_false]; (first | refine hK _ _ _ (by simp only [go_sem, Nat.reduceEqDiff, ↓reduceIte]; rfl) ?_ | refine ⟨_, hA, hK _ _ _ (by simp only [go_sem, Nat.reduceEqDiff, ↓reduceIte]; rfl) ?_⟩); clear hK; clear K) | (with_reducible first | refine rgn_nil (by first | trivial | kernel_rfl) ?_ | refine AWP.seq ?_ | refine tX hC hP (by kernel_rfl) ?_ | refine aX hC hM hP (by kernel_rfl) ?_ | refine AWP.skip ?_ | refine AWP.label ?_ | refine AWP.exit ?_ | refine AWP.block ?_ | refine cT (by simp only [go_sem, Nat.reduceEqDiff, ↓reduceIte]; with_reducible rfl) ?_ | refine cF (by simp only [go_sem, Nat.reduceEqDiff, ↓reduceIte]; with_reducible rfl) ?_) | simp only [qS, Nat.reduceEqDiff, ↓reduceIte]))
    (refine AWP.ret ?_; first | refine retOk1 (by simp only [go_sem, seval, ↓reduceIte, decide_true, decide_false]; rfl) ?_ | refine retOk2 (by simp only [go_sem, seval, ↓reduceIte, decide_true, decide_false]; rfl) (by simp only [go_sem, seval, ↓reduceIte, decide_true, decide_false]; rfl) (by simp) ?_ | refine retOk3 (by simp only [go_sem, seval, ↓reduceIte, decide_true, decide_false]; rfl) (by simp only [go_sem, seval, ↓reduceIte, decide_true, decide_false]; rfl) (by simp only [go_sem, seval, ↓reduceIte, decide_true, decide_false]; rfl) (by simp) ?_)
    simp [froC, c1]
  | true =>
    rw [c1] at hA
    cases hd : (decide (1 ≤ n) && decide (n ≤ 10)) with
    | true =>
      have hlt : (l.length : Int) - 1 < n := Decidable.byContradiction (fun hx => h (by simp only [froC, c1, hd, if_pos, if_neg hx]))
      (repeat (first | ((with_reducible refine rgn_cons rfl (fun K hK => ?_)); simp only [go_sem, seval, ↓reduceIte, decide_true, decide_false, hd, hlt]; (first | refine hK _ _ _ (by simp only [go_sem, Nat.reduceEqDiff, ↓reduceIte]; rfl) ?_ | refine ⟨_, hA, hK _ _ _ (by simp only [go_sem, Nat.reduceEqDiff, ↓reduceIte]; rfl) ?_⟩ | refine ⟨_, c_spec_l01In _ _ _, hK _ _ _ (by simp only [go_sem, Nat.reduceEqDiff, ↓reduceIte]; rfl) ?_⟩ | refine ⟨_, c_spec_l02Degree m l hl, hK _ _ _ (by simp only [go_sem, Nat.reduceEqDiff, ↓reduceIte]; rfl) ?_⟩); clear hK; clear K) | (with_reducible first | refine rgn_nil (by first | trivial | kernel_rfl) ?_ | refine AWP.seq ?_ | refine tX hC hP (by kernel_rfl) ?_ | refine aX hC hM hP (by kernel_rfl) ?_ | refine AWP.skip ?_ | refine AWP.label ?_ | refine AWP.exit ?_ | refine AWP.block ?_ | refine cT (by simp only [go_sem, Nat.reduceEqDiff, ↓reduceIte]; with_reducible rfl) ?_ | refine cF (by simp only [go_sem, Nat.reduceEqDiff, ↓reduceIte]; with_reducible rfl) ?_) | simp only [qS, Nat.reduceEqDiff, ↓reduceIte]))
      (refine AWP.ret ?_; first | refine retOk1 (by simp only [go_sem, seval, ↓reduceIte, decide_true, decide_false]; rfl) ?_ | refine retOk2 (by simp only [go_sem, seval, ↓reduceIte, decide_true, decide_false]; rfl) (by simp only [go_sem, seval, ↓reduceIte, decide_true, decide_false]; rfl) (by simp) ?_ | refine retOk3 (by simp only [go_sem, seval, ↓reduceIte, decide_true, decide_false]; rfl) (by simp only [go_sem, seval, ↓reduceIte, decide_true, decide_false]; rfl) (by simp only [go_sem, seval, ↓reduceIte, decide_true, decide_false]; rfl) (by simp) ?_)
      simp [froC, c1, hd, hlt]
    | false =>
      (repeat (first | ((with_reducible refine rgn_cons rfl (fun K hK => ?_)); simp only [go_sem, seval, ↓reduceIte, decide_true, decide_false, hd]; (first | refine hK _ _ _ (by simp only [go_sem, Nat.reduceEqDiff, ↓reduceIte]; rfl) ?_ | refine ⟨_, hA, hK _ _ _ (by simp only [go_sem, Nat.reduceEqDiff, ↓reduceIte]; rfl) ?_⟩ | refine ⟨_, c_spec_l01In _ _ _, hK _ _ _ (by simp only [go_sem, Nat.reduceEqDiff, ↓reduceIte]; rfl) ?_⟩); clear hK; clear K) | (with_reducible first | refine rgn_nil (by first | trivial | kernel_rfl) ?_ | refine AWP.seq ?_ | refine tX hC hP (by kernel_rfl) ?_ | refine aX hC hM hP (by kernel_rfl) ?_ | refine AWP.skip ?_ | refine AWP.label ?_ | refine AWP.exit ?_ | refine AWP.block ?_ | refine cT (by simp only [go_sem, Nat.reduceEqDiff, ↓reduceIte]; with_reducible rfl) ?_ | refine cF (by simp only [go_sem, Nat.reduceEqDiff, ↓reduceIte]; with_reducible rfl) ?_) | simp only [qS, Nat.reduceEqDiff, ↓reduceIte]))
      (refine AWP.ret ?_; first | refine retOk1 (by simp only [go_sem, seval, ↓reduceIte, decide_true, decide_false]; rfl) ?_ | refine retOk2 (by simp only [go_sem, seval, ↓reduceIte, decide_true, decide_false]; rfl) (by simp only [go_sem, seval, ↓reduceIte, decide_true, decide_false]; rfl) (by simp) ?_ | refine retOk3 (by simp only [go_sem, seval, ↓reduceIte, decide_true, decide_false]; rfl) (by simp only [go_sem, seval, ↓reduceIte, decide_true, decide_false]; rfl) (by simp only [go_sem, seval, ↓reduceIte, decide_true, decide_false]; rfl) (by simp) ?_)
      simp [froC, c1, hd]
theorem c_impl_FrobeniusOfBig_no (m n : Int) (l : List Int) (hl : l.length ≤ 1099511627776) (h : ¬ froC m l n = 0) : AFn Try.prog 25 [.agg [.int .i64 m, .sl false 2 (intL l)], .int .i64 n] (.tup [.agg [.int .i64 0, .nil], .int .i64 (froC m l n)]) := by
  refine AFn.of' ttOk (by decide) Try.func25 Try.ntmps25 (by rw [Try.results25]) (by rfl) (by rfl) (by simp) (by decide) (by simp only [go_sem, Nat.reduceAdd, ↓reduceIte]; rfl) mixed (fun C hP hM hC => ?_)
  have hA := c_impl_IsBigVector m l hl
  cases c1 : isBig m l with
  | false =>
    rw [c1] at hA
    (repeat (first | ((with_reducible refine rgn_cons rfl (fun K hK => ?_)); simp only [go_sem, seval, ↓reduceIte, decide_true, decide_false]; (first | refine hK _ _ _ (by simp only [go_sem, Nat.reduceEqDiff, ↓reduceIte]; rfl) ?_ | refine ⟨_, hA, hK _ _ _ (by simp only [go_sem, Nat.reduceEqDiff, ↓reduceIte]; rfl) ?_⟩); clear hK; clear K) | (with_reducible first | refine rgn_nil (by first | trivial | kernel_rfl) ?_ | refine AWP.seq ?_ | refine tX hC hP (by kernel_rfl) ?_ | refine aX hC hM hP (by kernel_rfl) ?_ | refine AWP.skip ?_ | refine AWP.label ?_ | refine AWP.exit ?_ | refine AWP.block ?_ | refine cT (by simp only [go_sem, Nat.reduceEqDiff, ↓reduceIte]; with_reducible rfl) ?_ | refine cF (by simp only [go_sem, Nat.reduceEqDiff, ↓reduceIte]; with_reducible rfl) ?_) | simp only [qS, Nat.reduceEqDiff, ↓reduceIte]))
    (refine AWP.ret ?_; first | refine retOk1 (by simp only [go_sem, seval, ↓reduceIte, decide_true, decide_false]; rfl) ?_ | refine retOk2 (by simp only [go_sem, seval, ↓reduceIte, decide_true, decide_false]; rfl) (by simp only [go_sem, seval, ↓reduceIte, decide_true, decide_false]; rfl) (by simp) ?_ | refine retOk3 (by simp only [go_sem, seval, ↓reduceIte, decide_true, decide_false]; rfl) (by simp only [go_sem, seval, ↓reduceIte, decide_true, decide_false]; rfl) (by simp only [go_sem, seval, ↓reduceIte, decide_true, decide_false]; rfl) (by simp) ?_)
    simp [froC, c1]
  | true =>
    rw [c1] at hA
    cases hd : (decide (1 ≤ n) && decide (n ≤ 10)) with
    | true =>
      have hlt : (l.length : Int) - 1 < n := Decidable.byContradiction (fun hx => h (by simp only [froC, c1, hd, if_pos, if_neg hx]))
      (repeat (first | ((with_reducible refine rgn_cons rfl (fun K hK => ?_)); simp only [go_sem, seval, ↓reduceIte, decide_true, decide_false, hd, hlt]; (first | refine hK _ _ _ (by simp only [go_sem, Nat.reduceEqDiff, ↓reduceIte]; rfl) ?_ | refine ⟨_, hA, hK _ _ _ (by simp only [go_sem, Nat.reduceEqDiff, ↓reduceIte]; rfl) ?_⟩ | refine ⟨_, c_impl_in _ _ _, hK _ _ _ (by simp only [go_sem, Nat.reduceEqDiff, ↓reduceIte]; rfl) ?_⟩ | refine ⟨_, c_impl_Series_degree m l hl, hK _ _ _ (by simp only [go_sem, Nat.reduceEqDiff, ↓reduceIte]; rfl) ?_⟩); clear hK; clear K) | (with_reducible first | refine rgn_nil (by first | trivial | kernel_rfl) ?_ | refine AWP.seq ?_ | refine tX hC hP (by kernel_rfl) ?_ | refine aX hC hM hP (by kernel_rfl) ?_ | refine AWP.skip ?_ | refine AWP.label ?_ | refine AWP.exit ?_ | refine AWP.block ?_ | refine cT (by simp only [go_sem, Nat.reduceEqDiff, ↓reduceIte]; with_reducible rfl) ?_ | refine cF (by simp only [go_sem, Nat.reduceEqDiff, ↓reduceIte]; with_reducible rfl) ?_) | simp only [qS, Nat.reduceEqDiff, ↓reduceIte]))
      (refine AWP.ret ?_; first | refine retOk1 (by simp only [go_sem, seval, ↓reduceIte, decide_true, decide_false]; rfl) ?_ | refine retOk2 (by simp only [go_sem, seval, ↓reduceIte, decide_true, decide_false]; rfl) (by simp only [go_sem, seval, ↓reduceIte, decide_true, decide_false]; rfl) (by simp) ?_ | refine retOk3 (by simp only [go_sem, seval, ↓reduceIte, decide_true, decide_false]; rfl) (by simp only [go_sem, seval, ↓reduceIte, decide_true, decide_false]; rfl) (by simp only [go_sem, seval, ↓reduceIte, decide_true, decide_false]; rfl) (by simp) ?_)
      simp [froC, c1, hd, hlt]
    | false =>
      (repeat (first | ((with_reducible refine rgn_cons rfl (fun K hK => ?_)); simp only [go_sem, seval, ↓reduceIte, decide_true, decide_false, hd]; (first | refine hK _ _ _ (by simp only [go_sem, Nat.reduceEqDiff, ↓reduceIte]; rfl) ?_ | refine ⟨_, hA, hK _ _ _ (by simp only [go_sem, Nat.reduceEqDiff, ↓reduceIte]; rfl) ?_⟩ | refine ⟨_, c_impl_in _ _ _, hK _ _ _ (by simp only [go_sem, Nat.reduceEqDiff, ↓reduceIte]; rfl) ?_⟩); clear hK; clear K) | (with_reducible first | refine rgn_nil (by first | trivial | kernel_rfl) ?_ | refine AWP.seq ?_ | refine tX hC hP (by kernel_rfl) ?_ | refine aX hC hM hP (by kernel_rfl) ?_ | refine AWP.skip ?_ | refine AWP.label ?_ | refine AWP.exit ?_ | refine AWP.block ?_ | refine cT (by simp only [go_sem, Nat.reduceEqDiff, ↓reduceIte]; with_reducible rfl) ?_ | refine cF (by simp only [go_sem, Nat.reduceEqDiff, ↓reduceIte]; with_reducible rfl) ?_) | simp only [qS, Nat.reduceEqDiff, ↓reduceIte]))
      (refine AWP.ret ?_; first | refine retOk1 (by simp only [go_sem, seval, ↓reduceIte, decide_true, decide_false]; rfl) ?_ | refine retOk2 (by simp only [go_sem, seval, ↓reduceIte, decide_true, decide_false]; rfl) (by simp only [go_sem, seval, ↓reduceIte, decide_true, decide_false]; rfl) (by simp) ?_ | refine retOk3 (by simp only [go_sem, seval, ↓reduceIte, decide_true, decide_false]; rfl) (by simp only [go_sem, seval, ↓reduceIte, decide_true, decide_false]; rfl) (by simp only [go_sem, seval, ↓reduceIte, decide_true, decide_false]; rfl) (by simp) ?_)
      simp [froC, c1, hd]
end Go.Proofs.Ytccjfbfebgfgoaa
