/-
  Inverses of series: the program's; negatives of big vectors.
-/
import Derived.Test.YtdnaecmcbkfpaaaGreatLn
import Derived.Test.YtdnaecmcbkfpaaaGreatLm
namespace Go.Proofs.YtdnaecmcbkfpaaaGreat
open Go.RowKit
set_option linter.unusedSimpArgs false
set_option linter.unusedVariables false
set_option linter.unusedSectionVars false
set_option maxRecDepth 20000
-- Inverses of series: the program's; negatives of big vectors.
set_option maxHeartbeats 1000000 in
theorem c_impl_Series_inverse (m : Int) (la : List Int) (d : Nat) (hm : 1 < m) (hm2 : m ≤ 10000) (ha : ∀ x ∈ la, 0 ≤ x ∧ x < m) (hla : la.length = d + 1) (hd : d ≤ 999999) : AFn Tryz.prog 80 [.agg [.int .i64 m, .sl false 2 (intL la)]] (.agg [.int .i64 m, .sl true 2 (intL (invS m la d))]) := by
  refine AFn.of' ttOk (by decide) Tryz.func80 Tryz.ntmps80 (by rw [Tryz.results80]) (by rfl) (by rfl) (by simp) (by decide) (by simp only [go_sem, Nat.reduceAdd, ↓reduceIte]; rfl) mixed (fun C hP hM hC => ?_)
  have hu := invL_bound m (at' la 0) (by omega)
  have h0 : 0 < la.length := by omega
  have hz0 : 0 < (tab (d + 1) (fun _ => 0)).length := by rw [tab_length]; omega
  have e1 : tab (d + 1) (fun j => if j = 0 then invL m (at' la 0) else 0) = tab (d + 1) (at' (iL m (invL m (at' la 0)) (at' la) 1)) := tab_congr fun j _ => by
    rw [iL_one]
    by_cases e : j = 0
    · subst e; rfl
    · rw [if_neg e, at_out (by simp; omega)]
  (repeat (first | ((with_reducible refine rgn_cons rfl (fun K hK => ?_)); simp only [go_sem, seval, ↓reduceIte, decide_true, decide_false, intL_getD la 0 h0, show la.getD 0 0 = at' la 0 from rfl, Int.toNat_zero, Int.le_refl, show (0 : Int) < (la.length : Int) by omega, tab_length, show (0 : Int) < ((d + 1 : Nat) : Int) by omega, intL_get _ 0 hz0, List.take_zero, Nat.zero_mul, intL_modify, tab_set, e1]; (first | refine hK _ _ _ (by simp only [go_sem, Nat.reduceEqDiff, ↓reduceIte]; rfl) ?_ | refine ⟨_, c_impl_Series_degree m la (by omega), hK _ _ _ (by simp only [go_sem, Nat.reduceEqDiff, ↓reduceIte]; rfl) ?_⟩ | refine ⟨_, c_impl_zero m ((la.length : Int) - 1) (d + 1) (by omega) (by omega), hK _ _ _ (by simp only [go_sem, Nat.reduceEqDiff, ↓reduceIte]; rfl) ?_⟩ | refine ⟨_, c_impl_inverse m (at' la 0) (by omega) (by omega), hK _ _ _ (by simp only [go_sem, Nat.reduceEqDiff, ↓reduceIte]; rfl) ?_⟩); clear hK; clear K) | (with_reducible first | refine rgn_nil (by first | trivial | kernel_rfl) ?_ | refine AWP.seq ?_ | refine tX hC hP (by kernel_rfl) ?_ | refine aX hC hM hP (by kernel_rfl) ?_ | refine AWP.skip ?_ | refine AWP.label ?_ | refine AWP.exit ?_ | refine AWP.block ?_ | refine cTa ?_ | refine cFa ?_) | simp only [qS, Nat.reduceEqDiff, ↓reduceIte]))
  refine AWP.loop (fun n : Nat => [(5, ⟨0, .val (.int .i64 n)⟩), (3, ⟨2, .own (.box 31 (.agg [.int .i64 m, .sl true 2 (intL (tab (d + 1) (at' (iL m (invL m (at' la 0)) (at' la) n))))]))⟩), (4, ⟨0, .val (.int .i64 (invL m (at' la 0)))⟩), (1, ⟨1, .own (.box 31 (.agg [.int .i64 m, .sl false 2 (intL la)]))⟩), (2, ⟨1, .own (.box 31 (.agg [.int .i64 0, .nil]))⟩)]) (fun n => 0 < n ∧ n ≤ d + 1) (fun n => d + 1 - n) 1 ⟨by omega, by omega⟩ (fun i => rfl) ?_ (fun n hw => ?_)
  · simp [Sub, lk]
  · have hdg := c_impl_Series_degree m la (by omega)
    rw [hla] at hdg
    by_cases hn : n ≤ d
    · have hol : (tab (d + 1) (at' (iL m (invL m (at' la 0)) (at' la) n))).length = d + 1 := tab_length _ _
      have hon : ∀ x ∈ tab (d + 1) (at' (iL m (invL m (at' la 0)) (at' la) n)), 0 ≤ x ∧ x < m := by
        intro x hx
        obtain ⟨i, _, rfl⟩ := mem_tab.1 hx
        exact at_bound (iL_num _ _ (by omega) hu) (by omega) i
      have hT := c_impl_Series_times m la (tab (d + 1) (at' (iL m (invL m (at' la 0)) (at' la) n))) d (by omega) hm2 ha hon hla hol (by omega)
      have hlt : n < (timesL m la (tab (d + 1) (at' (iL m (invL m (at' la 0)) (at' la) n))) d).length := by rw [timesL_length]; omega
      have g1 : (timesL m la (tab (d + 1) (at' (iL m (invL m (at' la 0)) (at' la) n))) d).getD n 0 = sm n (fun i => at' la (i + 1) * at' (iL m (invL m (at' la 0)) (at' la) n) (n - 1 - i)) % m := by
        rw [timesL, tab_getD (by omega), cv_pad hw.1 hn]
      have hs := emod_b (sm n (fun i => at' la (i + 1) * at' (iL m (invL m (at' la 0)) (at' la) n) (n - 1 - i))) m (by omega)
      have hsu := emod_b (sm n (fun i => at' la (i + 1) * at' (iL m (invL m (at' la 0)) (at' la) n) (n - 1 - i)) % m * invL m (at' la 0)) m (by omega)
      have e2 := iC_eq (m := m) (u := invL m (at' la 0)) (a := at' la) (o := iL m (invL m (at' la 0)) (at' la) n) hw.1 rfl
      have hlt2 : n < (tab (d + 1) (at' (iL m (invL m (at' la 0)) (at' la) n))).length := by rw [tab_length]; omega
      have hset : (tab (d + 1) (at' (iL m (invL m (at' la 0)) (at' la) n))).set n (iC m (invL m (at' la 0)) (at' la) n (iL m (invL m (at' la 0)) (at' la) n)) = tab (d + 1) (at' (iL m (invL m (at' la 0)) (at' la) (n + 1))) := tab_set' (fun j _ => iL_pad m (invL m (at' la 0)) (at' la) n d j (by omega))
      (repeat (first | ((with_reducible refine rgn_cons rfl (fun K hK => ?_)); simp only [go_sem, seval, ↓reduceIte, decide_true, decide_false, show (n : Int) ≤ ((d + 1 : Nat) : Int) - 1 by omega, Int.toNat_natCast, Int.natCast_nonneg, timesL_length, tab_length, show (n : Int) < ((d + 1 : Nat) : Int) by omega, Nat.mul_one, intL_get _ n hlt, sizeL_take _ n (Nat.le_of_lt hlt), g1, intL_get _ n hlt2, sizeL_take _ n (Nat.le_of_lt hlt2), wid (0 - sm n (fun i => at' la (i + 1) * at' (iL m (invL m (at' la 0)) (at' la) n) (n - 1 - i)) % m * invL m (at' la 0) % m) (by omega) (by omega), e2, intL_modify, hset, wid ((n : Int) + 1) (by omega) (by omega)]; (first | refine hK _ _ _ (by simp only [go_sem, Nat.reduceEqDiff, ↓reduceIte]; rfl) ?_ | refine ⟨_, hdg, hK _ _ _ (by simp only [go_sem, Nat.reduceEqDiff, ↓reduceIte]; rfl) ?_⟩ | refine ⟨_, hT, hK _ _ _ (by simp only [go_sem, Nat.reduceEqDiff, ↓reduceIte]; rfl) ?_⟩ | refine ⟨_, c_impl_mul m (sm n (fun i => at' la (i + 1) * at' (iL m (invL m (at' la 0)) (at' la) n) (n - 1 - i)) % m) (invL m (at' la 0)) (by omega) (by omega) hs.1 hs.2 hu.1 hu.2, hK _ _ _ (by simp only [go_sem, Nat.reduceEqDiff, ↓reduceIte]; rfl) ?_⟩ | refine ⟨_, c_impl_mod (0 - sm n (fun i => at' la (i + 1) * at' (iL m (invL m (at' la 0)) (at' la) n) (n - 1 - i)) % m * invL m (at' la 0) % m) m (by omega) (by omega), hK _ _ _ (by simp only [go_sem, Nat.reduceEqDiff, ↓reduceIte]; rfl) ?_⟩); clear hK; clear K) | (with_reducible first | refine rgn_nil (by first | trivial | kernel_rfl) ?_ | refine AWP.seq ?_ | refine tX hC hP (by kernel_rfl) ?_ | refine aX hC hM hP (by kernel_rfl) ?_ | refine AWP.skip ?_ | refine AWP.label ?_ | refine AWP.exit ?_ | refine AWP.block ?_ | refine cTa ?_ | refine cFa ?_) | simp only [qS, Nat.reduceEqDiff, ↓reduceIte]))
      exact ⟨n + 1, by omega, by omega, by simp [Sub, lk]⟩
    · (repeat (first | ((with_reducible refine rgn_cons rfl (fun K hK => ?_)); simp only [go_sem, seval, ↓reduceIte, decide_true, decide_false, show ¬ (n : Int) ≤ ((d + 1 : Nat) : Int) - 1 by omega, decide_false]; (first | refine hK _ _ _ (by simp only [go_sem, Nat.reduceEqDiff, ↓reduceIte]; rfl) ?_ | refine ⟨_, hdg, hK _ _ _ (by simp only [go_sem, Nat.reduceEqDiff, ↓reduceIte]; rfl) ?_⟩); clear hK; clear K) | (with_reducible first | refine rgn_nil (by first | trivial | kernel_rfl) ?_ | refine AWP.seq ?_ | refine tX hC hP (by kernel_rfl) ?_ | refine aX hC hM hP (by kernel_rfl) ?_ | refine AWP.skip ?_ | refine AWP.label ?_ | refine AWP.exit ?_ | refine AWP.block ?_ | refine cTa ?_ | refine cFa ?_) | simp only [qS, Nat.reduceEqDiff, ↓reduceIte]))
      (refine AWP.ret ?_; refine retOk1 (by simp only [go_sem, seval, ↓reduceIte, decide_true, decide_false]; rfl) ?_)
      rw [show n = d + 1 by omega, tab_iL]; rfl
def oneC (m : Int) (l : List Int) : Int := if isBig m l = true then 0 else 1
theorem oneC_zero {m : Int} {l : List Int} (h : oneC m l = 0) : isBig m l = true := by
  unfold oneC at h
  split at h
  · assumption
  · cases h
end Go.Proofs.YtdnaecmcbkfpaaaGreat
