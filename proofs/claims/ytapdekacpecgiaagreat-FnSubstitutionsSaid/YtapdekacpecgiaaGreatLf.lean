/-
  RepresentativeBig.
-/
import Derived.Test.YtapdekacpecgiaaGreatLd
import Derived.Test.YtapdekacpecgiaaGreatLcc
import Derived.Test.YtapdekacpecgiaaGreatLc
import Derived.Test.YtapdekacpecgiaaGreatPa
namespace Go.Proofs.YtapdekacpecgiaaGreat
open Go.RowKit
set_option linter.unusedSimpArgs false
set_option linter.unusedVariables false
set_option linter.unusedSectionVars false
set_option maxRecDepth 20000
-- RepresentativeBig.
-- Two big vectors; sums.
def alikeB (m1 : Int) (l1 : List Int) (m2 : Int) (l2 : List Int) : Bool := (m1 == m2) && (l1.length == l2.length)
set_option maxHeartbeats 1000000 in
theorem c_impl_Series_alike (m1 m2 : Int) (l1 l2 : List Int) (h1 : l1.length ≤ 1099511627776) (h2 : l2.length ≤ 1099511627776) : AFn Tryz.prog 193 [.agg [.int .i64 m1, .sl false 2 (intL l1)], .agg [.int .i64 m2, .sl false 2 (intL l2)]] (.bool (alikeB m1 l1 m2 l2)) := by
  refine AFn.of' ttOk (by decide) Tryz.func193 Tryz.ntmps193 (by rw [Tryz.results193]) (by rfl) (by rfl) (by simp) (by decide) (by simp only [go_sem, Nat.reduceAdd, ↓reduceIte]; rfl) mixed (fun C hP hM hC => ?_)
  cases hm : (m1 == m2) with
  | false =>
    (repeat (first | ((with_reducible refine rgn_cons rfl (fun K hK => ?_)); simp only [go_sem, seval, ↓reduceIte, decide_true, decide_false, hm]; (refine hK _ _ _ (by simp only [go_sem, Nat.reduceEqDiff, ↓reduceIte]; rfl) ?_); clear hK; clear K) | (with_reducible first | refine rgn_nil (by first | trivial | kernel_rfl) ?_ | refine AWP.seq ?_ | refine tX hC hP (by kernel_rfl) ?_ | refine aX hC hM hP (by kernel_rfl) ?_ | refine AWP.skip ?_ | refine AWP.label ?_ | refine AWP.exit ?_ | refine AWP.block ?_ | refine cTa ?_ | refine cFa ?_) | simp only [qS, Nat.reduceEqDiff, ↓reduceIte]))
    (refine AWP.ret ?_; refine retOk1 (by simp only [go_sem, seval, ↓reduceIte, decide_true, decide_false]; rfl) ?_)
    simp [alikeB, hm]
  | true =>
    have e : (((l1.length : Int) - 1) == ((l2.length : Int) - 1)) = (l1.length == l2.length) := by
      rw [Bool.eq_iff_iff]; simp; omega
    (repeat (first | ((with_reducible refine rgn_cons rfl (fun K hK => ?_)); simp only [go_sem, seval, ↓reduceIte, decide_true, decide_false, hm, e]; (first | refine hK _ _ _ (by simp only [go_sem, Nat.reduceEqDiff, ↓reduceIte]; rfl) ?_ | refine ⟨_, c_impl_Series_degree m1 l1 h1, hK _ _ _ (by simp only [go_sem, Nat.reduceEqDiff, ↓reduceIte]; rfl) ?_⟩ | refine ⟨_, c_impl_Series_degree m2 l2 h2, hK _ _ _ (by simp only [go_sem, Nat.reduceEqDiff, ↓reduceIte]; rfl) ?_⟩); clear hK; clear K) | (with_reducible first | refine rgn_nil (by first | trivial | kernel_rfl) ?_ | refine AWP.seq ?_ | refine tX hC hP (by kernel_rfl) ?_ | refine aX hC hM hP (by kernel_rfl) ?_ | refine AWP.skip ?_ | refine AWP.label ?_ | refine AWP.exit ?_ | refine AWP.block ?_ | refine cTa ?_ | refine cFa ?_) | simp only [qS, Nat.reduceEqDiff, ↓reduceIte]))
    (refine AWP.ret ?_; refine retOk1 (by simp only [go_sem, seval, ↓reduceIte, decide_true, decide_false]; rfl) ?_)
    simp [alikeB, hm]
-- Powers of series: the program's; multiples of big vectors.
-- Inverses of series.
-- Inverses of series: the program's; negatives of big vectors.
end Go.Proofs.YtapdekacpecgiaaGreat
