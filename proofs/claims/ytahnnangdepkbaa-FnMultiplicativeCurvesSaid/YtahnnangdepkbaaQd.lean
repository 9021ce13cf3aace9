/-
  The opposite and the multiples of a curve.
-/
import Derived.Test.YtahnnangdepkbaaQc
namespace Go.Proofs.Ytahnnangdepkbaa
open Go.RowKit
set_option linter.unusedSimpArgs false
set_option linter.unusedVariables false
set_option linter.unusedSectionVars false
set_option maxRecDepth 20000
-- The opposite and the multiples of a curve.
/-- The series t. -/
def varL (d : Nat) : List Int := tab (d + 1) (fun j => if j = 1 then 1 else 0)
theorem varL_facts {m : Int} (hm : 1 < m) (d : Nat) : (varL d).length = d + 1 ∧ ∀ x ∈ varL d, 0 ≤ x ∧ x < m :=
  ⟨tab_length _ _, fun x hx => by obtain ⟨i, _, rfl⟩ := mem_tab.1 hx; split <;> omega⟩
theorem varL_set {d : Nat} (hd : 1 ≤ d) : (tab (d + 1) (fun _ => 0)).set 1 1 = varL d := tab_set' fun j hj => by simp
set_option maxHeartbeats 1000000 in
theorem c_impl_variable (m : Int) (d : Nat) (hd : 1 ≤ d) (hd2 : d ≤ 1000) : AFn Try.prog 42 [.int .i64 m, .int .i64 d] (.agg [.int .i64 m, .sl true 2 (intL (varL d))]) := by
  refine AFn.of' ttOk (by decide) Try.func42 Try.ntmps42 (by rw [Try.results42]) (by rfl) (by rfl) (by simp) (by decide) (by simp only [go_sem, Nat.reduceAdd, ↓reduceIte]; rfl) mixed (fun C hP hM hC => ?_)
  have h1 : 1 < (tab (d + 1) (fun _ => 0)).length := by rw [tab_length]; omega
  (repeat (first | ((with_reducible refine rgn_cons rfl (fun K hK => ?_)); simp only [go_sem, seval, ↓reduceIte, decide_true, decide_false, tab_length, show (0 : Int) ≤ 1 by decide, show (1 : Int).toNat = 1 from rfl, show (1 : Int) < ((d + 1 : Nat) : Int) by omega, intL_get _ _ h1, sizeL_take _ _ (Nat.le_of_lt h1), Nat.mul_one, intL_modify, varL_set hd]; (first | refine hK _ _ _ (by simp only [go_sem, Nat.reduceEqDiff, ↓reduceIte]; rfl) ?_ | refine ⟨_, c_impl_zero m (d : Int) (d + 1) (by omega) (by omega), hK _ _ _ (by simp only [go_sem, Nat.reduceEqDiff, ↓reduceIte]; rfl) ?_⟩); clear hK; clear K) | (with_reducible first | refine rgn_nil (by first | trivial | kernel_rfl) ?_ | refine AWP.seq ?_ | refine tX hC hP (by kernel_rfl) ?_ | refine aX hC hM hP (by kernel_rfl) ?_ | refine AWP.skip ?_ | refine AWP.label ?_ | refine AWP.exit ?_ | refine AWP.block ?_ | refine cTa ?_ | refine cFa ?_) | simp only [qS, Nat.reduceEqDiff, ↓reduceIte]))
  (refine AWP.ret ?_; refine retOk1 (by simp only [go_sem, seval, ↓reduceIte, decide_true, decide_false]; rfl) ?_)
  rfl
/-- Multiples: an accumulator, a curve, and a number. -/
def muL (m : Int) (t : Nat → Nat → Int) (d : Nat) (o b : List Int) (k : Nat) : List Int :=
  if h : k = 0 then o else muL m t d (if k % 2 = 1 then putL m t o b d else o) (putL m t b b d) (k / 2)
  termination_by k
  decreasing_by omega
end Go.Proofs.Ytahnnangdepkbaa
