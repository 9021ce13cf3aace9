/-
  Contracts, printed by a program of this work.
-/
import Derived.Test.YtahnnangdepkbaaLf
import Derived.Test.YtahnnangdepkbaaLf
import Derived.Test.YtahnnangdepkbaaLf
import Derived.Test.YtahnnangdepkbaaLp
import Derived.Test.YtahnnangdepkbaaLr
namespace Go.Proofs.Ytahnnangdepkbaa
open Go.RowKit
set_option linter.unusedSimpArgs false
set_option linter.unusedVariables false
set_option linter.unusedSectionVars false
set_option maxRecDepth 20000
/-- The code for a big vector and a number within bounds. -/
def bigC (m : Int) (l : List Int) (n lo hi : Int) : Int := if isBig m l = true then (if (decide (lo ≤ n) && decide (n ≤ hi)) = true then 0 else 2) else 1
theorem bigC_zero {m : Int} {l : List Int} {n lo hi : Int} (h : bigC m l n lo hi = 0) : isBig m l = true ∧ lo ≤ n ∧ n ≤ hi := by
  unfold bigC at h
  split at h
  · rename_i h1
    split at h
    · rename_i h2
      simp only [Bool.and_eq_true, decide_eq_true_eq] at h2
      exact ⟨h1, h2.1, h2.2⟩
    · cases h
  · cases h
-- VerschiebungOfBig.
set_option maxHeartbeats 1000000 in
theorem c_impl_VerschiebungOfBig_ok (m n : Int) (l : List Int) (hl : l.length ≤ 1099511627776) (h : bigC m l n 1 100 = 0) : AFn Try.prog 14 [.agg [.int .i64 m, .sl false 2 (intL l)], .int .i64 n] (.tup [.agg [.int .i64 m, .sl true 2 (intL (spreadL l n.toNat (l.length - 1)))], .int .i64 (bigC m l n 1 100)]) := by
  refine AFn.of' ttOk (by decide) Try.func14 Try.ntmps14 (by rw [Try.results14]) (by rfl) (by rfl) (by simp) (by decide) (by simp only [go_sem, Nat.reduceAdd, ↓reduceIte]; rfl) mixed (fun C hP hM hC => ?_)
  have hz := bigC_zero h
  have f := isBig_facts hz.1
  have hd : (decide (1 ≤ n) && decide (n ≤ 100)) = true := by simp [hz]
  have hA := c_impl_IsBigVector m l hl
  rw [hz.1] at hA
  have hPw := c_impl_Series_spread m l n.toNat (l.length - 1) (by omega) (by omega) (by omega) (by omega)
  rw [show (n.toNat : Int) = n by omega] at hPw
  (repeat (first | ((with_reducible refine rgn_cons rfl (fun K hK => ?_)); simp only [go_sem, seval, ↓reduceIte, decide_true, decide_false, hd]; (first | refine hK _ _ _ (by simp only [go_sem, Nat.reduceEqDiff, ↓reduceIte]; rfl) ?_ | refine ⟨_, hA, hK _ _ _ (by simp only [go_sem, Nat.reduceEqDiff, ↓reduceIte]; rfl) ?_⟩ | refine ⟨_, c_impl_in _ _ _, hK _ _ _ (by simp only [go_sem, Nat.reduceEqDiff, ↓reduceIte]; rfl) ?_⟩ | refine ⟨_, hPw, hK _ _ _ (by simp only [go_sem, Nat.reduceEqDiff, ↓reduceIte]; rfl) ?_⟩); clear hK; clear K) | (with_reducible first | refine rgn_nil (by first | trivial | kernel_rfl) ?_ | refine AWP.seq ?_ | refine tX hC hP (by kernel_rfl) ?_ | refine aX hC hM hP (by kernel_rfl) ?_ | refine AWP.skip ?_ | refine AWP.label ?_ | refine AWP.exit ?_ | refine AWP.block ?_ | refine cTa ?_ | refine cFa ?_) | simp only [qS, Nat.reduceEqDiff, ↓reduceIte]))
  (refine AWP.ret ?_; refine retOk2 (by simp only [go_sem, seval, ↓reduceIte, decide_true, decide_false]; rfl) (by simp only [go_sem, seval, ↓reduceIte, decide_true, decide_false]; rfl) (by simp) ?_)
  rw [h]
end Go.Proofs.Ytahnnangdepkbaa
