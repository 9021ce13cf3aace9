/-
  Coordinates of big vectors.
-/
import Derived.Test.YtdnaecmcbkfpaaaGreatLo
import Derived.Test.YtdnaecmcbkfpaaaGreatPa
namespace Go.Proofs.YtdnaecmcbkfpaaaGreat
open Go.RowKit
set_option linter.unusedSimpArgs false
set_option linter.unusedVariables false
set_option linter.unusedSectionVars false
set_option maxRecDepth 20000
-- Coordinates of big vectors.
set_option maxHeartbeats 1000000 in
theorem c_spec_l01Own (l : List Int) (hl : l.length ≤ 1000000000) : AFn Tryz.prog 93 [.sl false 2 (intL l)] (.sl true 2 (intL l)) := by
  refine AFn.of' ttOk (by decide) Tryz.func93 Tryz.ntmps93 (by rw [Tryz.results93]) (by rfl) (by rfl) (by simp) (by decide) (by simp only [go_sem, Nat.reduceAdd, ↓reduceIte]; rfl) mixed (fun C hP hM hC => ?_)
  (repeat (first | ((with_reducible refine rgn_cons rfl (fun K hK => ?_)); simp only [go_sem, seval, ↓reduceIte, decide_true, decide_false, intL_plain, Nat.zero_add, List.length_nil, show l.length ≤ 1099511627776 by omega, show l.length * 8 ≤ 140737488355328 by omega]; (refine hK _ _ _ (by simp only [go_sem, Nat.reduceEqDiff, ↓reduceIte]; rfl) ?_); clear hK; clear K) | (with_reducible first | refine rgn_nil (by first | trivial | kernel_rfl) ?_ | refine AWP.seq ?_ | refine tX hC hP (by kernel_rfl) ?_ | refine aX hC hM hP (by kernel_rfl) ?_ | refine AWP.skip ?_ | refine AWP.label ?_ | refine AWP.exit ?_ | refine AWP.block ?_ | refine cTa ?_ | refine cFa ?_) | simp only [qS, Nat.reduceEqDiff, ↓reduceIte]))
  (refine AWP.ret ?_; refine retOk1 (by simp only [go_sem, seval, ↓reduceIte, decide_true, decide_false]; rfl) ?_)
  rfl
end Go.Proofs.YtdnaecmcbkfpaaaGreat
