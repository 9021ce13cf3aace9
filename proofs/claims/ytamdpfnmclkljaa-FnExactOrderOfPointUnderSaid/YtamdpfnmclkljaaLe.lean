/-
  Series of powers.
-/
import Derived.Test.YtamdpfnmclkljaaLd
namespace Go.Proofs.Ytamdpfnmclkljaa
open Go.RowKit
set_option linter.unusedSimpArgs false
set_option linter.unusedVariables false
set_option linter.unusedSectionVars false
set_option maxRecDepth 20000
-- Series of powers.
theorem c_impl_Series_constant (m : Int) (l : List Int) (c : Int) (hl : l.length ≤ 1000000) (h0 : 0 < l.length) (hm : 0 < m) (hm2 : m ≤ 1000000000000) : AFn Try.prog 151 [.agg [.int .i64 m, .sl false 2 (intL l)], .int .i64 c] (.agg [.int .i64 m, .sl true 2 (intL (tab l.length (fun j => if j = 0 then c % m else 0)))]) := by
  refine AFn.of' ttOk (by decide) Try.func151 Try.ntmps151 (by rw [Try.results151]) (by rfl) (by rfl) (by simp) (by decide) (by simp only [go_sem, Nat.reduceAdd, ↓reduceIte]; rfl) mixed (fun C hP hM hC => ?_)
  have hI : (0 : Int) < (l.length : Int) := by omega
  (repeat (first | ((with_reducible refine rgn_cons rfl (fun K hK => ?_)); simp only [go_sem, seval, ↓reduceIte, decide_true, decide_false, tab_length, hI, Int.le_refl, Int.toNat_zero, intL_get _ 0 (show 0 < (tab l.length (fun _ => 0)).length by simpa [tab_length] using h0), intL_modify, tab_set, List.take_zero, Nat.zero_mul, show (0 : Int) < (l.length : Int) by omega, h0]; (first | refine hK _ _ _ (by simp only [go_sem, Nat.reduceEqDiff, ↓reduceIte]; rfl) ?_ | refine ⟨_, c_impl_Series_degree m l (by omega), hK _ _ _ (by simp only [go_sem, Nat.reduceEqDiff, ↓reduceIte]; rfl) ?_⟩ | refine ⟨_, c_impl_zero m ((l.length : Int) - 1) l.length (by omega) (by omega), hK _ _ _ (by simp only [go_sem, Nat.reduceEqDiff, ↓reduceIte]; rfl) ?_⟩ | refine ⟨_, c_impl_mod c m hm (by omega), hK _ _ _ (by simp only [go_sem, Nat.reduceEqDiff, ↓reduceIte]; rfl) ?_⟩); clear hK; clear K) | (with_reducible first | refine rgn_nil (by first | trivial | kernel_rfl) ?_ | refine AWP.seq ?_ | refine tX hC hP (by kernel_rfl) ?_ | refine aX hC hM hP (by kernel_rfl) ?_ | refine AWP.skip ?_ | refine AWP.label ?_ | refine AWP.exit ?_ | refine AWP.block ?_ | refine cT (by simp only [go_sem, Nat.reduceEqDiff, ↓reduceIte]; with_reducible rfl) ?_ | refine cF (by simp only [go_sem, Nat.reduceEqDiff, ↓reduceIte]; with_reducible rfl) ?_) | simp only [qS, Nat.reduceEqDiff, ↓reduceIte]))
  (refine AWP.ret ?_; first | refine retOk1 (by simp only [go_sem, seval, ↓reduceIte, decide_true, decide_false]; rfl) ?_ | refine retOk2 (by simp only [go_sem, seval, ↓reduceIte, decide_true, decide_false]; rfl) (by simp only [go_sem, seval, ↓reduceIte, decide_true, decide_false]; rfl) (by simp) ?_ | refine retOk3 (by simp only [go_sem, seval, ↓reduceIte, decide_true, decide_false]; rfl) (by simp only [go_sem, seval, ↓reduceIte, decide_true, decide_false]; rfl) (by simp only [go_sem, seval, ↓reduceIte, decide_true, decide_false]; rfl) (by simp) ?_)
  rfl
theorem c_spec_l02Make (m : Int) (l : List Int) : AFn Try.prog 67 [.int .i64 m, .sl true 2 (intL l)] (.agg [.int .i64 m, .sl true 2 (intL l)]) := by
  refine AFn.of' ttOk (by decide) Try.func67 Try.ntmps67 (by rw [Try.results67]) (by rfl) (by rfl) (by simp) (by decide) (by simp only [go_sem, Nat.reduceAdd, ↓reduceIte]; rfl) mixed (fun C hP hM hC => ?_)
  (repeat (first | ((with_reducible refine rgn_cons rfl (fun K hK => ?_)); simp only [go_sem, seval, ↓reduceIte, decide_true, decide_false]; (refine hK _ _ _ (by simp only [go_sem, Nat.reduceEqDiff, ↓reduceIte]; rfl) ?_); clear hK; clear K) | (with_reducible first | refine rgn_nil (by first | trivial | kernel_rfl) ?_ | refine AWP.seq ?_ | refine tX hC hP (by kernel_rfl) ?_ | refine aX hC hM hP (by kernel_rfl) ?_ | refine AWP.skip ?_ | refine AWP.label ?_ | refine AWP.exit ?_ | refine AWP.block ?_ | refine cT (by simp only [go_sem, Nat.reduceEqDiff, ↓reduceIte]; with_reducible rfl) ?_ | refine cF (by simp only [go_sem, Nat.reduceEqDiff, ↓reduceIte]; with_reducible rfl) ?_) | simp only [qS, Nat.reduceEqDiff, ↓reduceIte]))
  (refine AWP.ret ?_; first | refine retOk1 (by simp only [go_sem, seval, ↓reduceIte, decide_true, decide_false]; rfl) ?_ | refine retOk2 (by simp only [go_sem, seval, ↓reduceIte, decide_true, decide_false]; rfl) (by simp only [go_sem, seval, ↓reduceIte, decide_true, decide_false]; rfl) (by simp) ?_ | refine retOk3 (by simp only [go_sem, seval, ↓reduceIte, decide_true, decide_false]; rfl) (by simp only [go_sem, seval, ↓reduceIte, decide_true, decide_false]; rfl) (by simp only [go_sem, seval, ↓reduceIte, decide_true, decide_false]; rfl) (by simp) ?_)
  rfl
end Go.Proofs.Ytamdpfnmclkljaa
