/-
  Verschiebung of big vectors.
-/
import Derived.Test.YtahnnangdepkbaaLf
import Derived.Test.YtahnnangdepkbaaPa
namespace Go.Proofs.Ytahnnangdepkbaa
open Go.RowKit
set_option linter.unusedSimpArgs false
set_option linter.unusedVariables false
set_option linter.unusedSectionVars false
set_option maxRecDepth 20000
-- Verschiebung of big vectors.
set_option maxHeartbeats 1000000 in
theorem c_impl_Series_spread (m : Int) (l : List Int) (n d : Nat) (hn : 0 < n) (hn2 : n ≤ 1000000) (hl : l.length = d + 1) (hd : d ≤ 999999) : AFn Try.prog 37 [.agg [.int .i64 m, .sl false 2 (intL l)], .int .i64 n] (.agg [.int .i64 m, .sl true 2 (intL (spreadL l n d))]) := by
  refine AFn.of' ttOk (by decide) Try.func37 Try.ntmps37 (by rw [Try.results37]) (by rfl) (by rfl) (by simp) (by decide) (by simp only [go_sem, Nat.reduceAdd, ↓reduceIte]; rfl) mixed (fun C hP hM hC => ?_)
  have hdg := c_impl_Series_degree m l (by omega)
  rw [hl] at hdg
  (repeat (first | ((with_reducible refine rgn_cons rfl (fun K hK => ?_)); simp only [go_sem, seval, ↓reduceIte, decide_true, decide_false, hl]; (first | refine hK _ _ _ (by simp only [go_sem, Nat.reduceEqDiff, ↓reduceIte]; rfl) ?_ | refine ⟨_, hdg, hK _ _ _ (by simp only [go_sem, Nat.reduceEqDiff, ↓reduceIte]; rfl) ?_⟩ | refine ⟨_, c_impl_zero m (((d + 1 : Nat) : Int) - 1) (d + 1) (by omega) (by omega), hK _ _ _ (by simp only [go_sem, Nat.reduceEqDiff, ↓reduceIte]; rfl) ?_⟩); clear hK; clear K) | (with_reducible first | refine rgn_nil (by first | trivial | kernel_rfl) ?_ | refine AWP.seq ?_ | refine tX hC hP (by kernel_rfl) ?_ | refine aX hC hM hP (by kernel_rfl) ?_ | refine AWP.skip ?_ | refine AWP.label ?_ | refine AWP.exit ?_ | refine AWP.block ?_ | refine cTa ?_ | refine cFa ?_) | simp only [qS, Nat.reduceEqDiff, ↓reduceIte]))
  refine AWP.loop (fun c : Nat => [(16, ⟨0, .val (.int .i64 c)⟩), (15, ⟨0, .val (.int .i64 (d + 1 : Nat))⟩), (14, ⟨0, .val (.sl false 2 (intL l))⟩), (5, ⟨2, .own (.box 36 (.agg [.int .i64 m, .sl true 2 (intL (tab (d + 1) (spF (at' l) n c)))]))⟩), (2, ⟨1, .own (.box 36 (.agg [.int .i64 m, .sl false 2 (intL l)]))⟩), (4, ⟨1, .own (.box 36 (.agg [.int .i64 0, .nil]))⟩), (1, ⟨0, .val (.int .i64 n)⟩)]) (fun c => c ≤ d + 1) (fun c => d + 1 - c) 0 (Nat.zero_le _) (fun i => rfl) ?_ (fun c hc => ?_)
  · have e2 : tab (d + 1) (spF (at' l) n 0) = tab (d + 1) (fun _ => 0) := tab_congr fun j _ => by simp [spF]
    simp [Sub, lk, e2]
  · have hcn : c * n ≤ 1000000 * 1000000 := Nat.mul_le_mul (by omega) hn2
    have e1 : (c : Int) * (n : Int) = ((c * n : Nat) : Int) := by simp
    by_cases h1 : c < d + 1
    · by_cases h2 : c * n ≤ d
      · have hi : c * n < (tab (d + 1) (spF (at' l) n c)).length := by rw [tab_length]; omega
        have hset : (tab (d + 1) (spF (at' l) n c)).set (c * n) (at' l c) = tab (d + 1) (spF (at' l) n (c + 1)) := tab_set' (fun j _ => spF_set hn j)
        (repeat (first | ((with_reducible refine rgn_cons rfl (fun K hK => ?_)); simp only [go_sem, seval, ↓reduceIte, decide_true, decide_false, show (c : Int) < ((d + 1 : Nat) : Int) by omega, hl, e1, wid ((c * n : Nat) : Int) (by omega) (by omega), show ((c * n : Nat) : Int) ≤ ((d + 1 : Nat) : Int) - 1 by omega, Int.toNat_natCast, Int.natCast_nonneg, intL_getD l c (by omega), show l.getD c 0 = at' l c from rfl, tab_length, show ((c * n : Nat) : Int) < ((d + 1 : Nat) : Int) by omega, Nat.mul_one, intL_get _ _ hi, sizeL_take _ _ (Nat.le_of_lt hi), intL_modify, hset, wid ((c : Int) + 1) (by omega) (by omega)]; (first | refine hK _ _ _ (by simp only [go_sem, Nat.reduceEqDiff, ↓reduceIte]; rfl) ?_ | refine ⟨_, hdg, hK _ _ _ (by simp only [go_sem, Nat.reduceEqDiff, ↓reduceIte]; rfl) ?_⟩); clear hK; clear K) | (with_reducible first | refine rgn_nil (by first | trivial | kernel_rfl) ?_ | refine AWP.seq ?_ | refine tX hC hP (by kernel_rfl) ?_ | refine aX hC hM hP (by kernel_rfl) ?_ | refine AWP.skip ?_ | refine AWP.label ?_ | refine AWP.exit ?_ | refine AWP.block ?_ | refine cTa ?_ | refine cFa ?_) | simp only [qS, Nat.reduceEqDiff, ↓reduceIte]))
        exact ⟨c + 1, by omega, by omega, by simp [Sub, lk]⟩
      · have hov : tab (d + 1) (spF (at' l) n (c + 1)) = tab (d + 1) (spF (at' l) n c) := tab_congr fun j hj => spF_over hn (show d < c * n by omega) (by omega)
        (repeat (first | ((with_reducible refine rgn_cons rfl (fun K hK => ?_)); simp only [go_sem, seval, ↓reduceIte, decide_true, decide_false, show (c : Int) < ((d + 1 : Nat) : Int) by omega, hl, e1, wid ((c * n : Nat) : Int) (by omega) (by omega), show ¬ ((c * n : Nat) : Int) ≤ ((d + 1 : Nat) : Int) - 1 by omega, decide_false, Int.toNat_natCast, Int.natCast_nonneg, intL_getD l c (by omega), show l.getD c 0 = at' l c from rfl, wid ((c : Int) + 1) (by omega) (by omega)]; (first | refine hK _ _ _ (by simp only [go_sem, Nat.reduceEqDiff, ↓reduceIte]; rfl) ?_ | refine ⟨_, hdg, hK _ _ _ (by simp only [go_sem, Nat.reduceEqDiff, ↓reduceIte]; rfl) ?_⟩); clear hK; clear K) | (with_reducible first | refine rgn_nil (by first | trivial | kernel_rfl) ?_ | refine AWP.seq ?_ | refine tX hC hP (by kernel_rfl) ?_ | refine aX hC hM hP (by kernel_rfl) ?_ | refine AWP.skip ?_ | refine AWP.label ?_ | refine AWP.exit ?_ | refine AWP.block ?_ | refine cTa ?_ | refine cFa ?_) | simp only [qS, Nat.reduceEqDiff, ↓reduceIte]))
        exact ⟨c + 1, by omega, by omega, by simp [Sub, lk, hov]⟩
    · (repeat (first | ((with_reducible refine rgn_cons rfl (fun K hK => ?_)); simp only [go_sem, seval, ↓reduceIte, decide_true, decide_false, show ¬ (c : Int) < ((d + 1 : Nat) : Int) by omega, decide_false]; (refine hK _ _ _ (by simp only [go_sem, Nat.reduceEqDiff, ↓reduceIte]; rfl) ?_); clear hK; clear K) | (with_reducible first | refine rgn_nil (by first | trivial | kernel_rfl) ?_ | refine AWP.seq ?_ | refine tX hC hP (by kernel_rfl) ?_ | refine aX hC hM hP (by kernel_rfl) ?_ | refine AWP.skip ?_ | refine AWP.label ?_ | refine AWP.exit ?_ | refine AWP.block ?_ | refine cTa ?_ | refine cFa ?_) | simp only [qS, Nat.reduceEqDiff, ↓reduceIte]))
      (refine AWP.ret ?_; refine retOk1 (by simp only [go_sem, seval, ↓reduceIte, decide_true, decide_false]; rfl) ?_)
      rw [spread_of hn (.inl (by omega))]
end Go.Proofs.Ytahnnangdepkbaa
