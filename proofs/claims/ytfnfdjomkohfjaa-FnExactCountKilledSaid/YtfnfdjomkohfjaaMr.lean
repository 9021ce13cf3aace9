/-
  The laws' marks on rows of rows.
-/
import Derived.Test.YtfnfdjomkohfjaaLcc
import Derived.Test.YtfnfdjomkohfjaaTr
import Derived.Test.YtfnfdjomkohfjaaRz
namespace Go.Proofs.Ytfnfdjomkohfjaa
open Go.RowKit
set_option linter.unusedSimpArgs false
set_option linter.unusedVariables false
set_option linter.unusedSectionVars false
set_option maxRecDepth 20000
-- The laws' marks on rows of rows.
open Go.Sort
def total : List (List Int) → Nat
  | [] => 0
  | l :: r => l.length + total r
theorem total_take_succ (ll : List (List Int)) (i : Nat) (h : i < ll.length) : total (ll.take (i + 1)) = total (ll.take i) + (ll.getD i []).length := by
  induction ll generalizing i with
  | nil => simp at h
  | cons l r ih =>
    cases i with
    | zero => simp [total]
    | succ i =>
      have := ih i (by simpa using h)
      simp only [List.take_succ_cons, total, this, List.getD_cons_succ]
      omega
theorem total_take_le (ll : List (List Int)) (i : Nat) : total (ll.take i) ≤ total ll := by
  induction ll generalizing i with
  | nil => simp [total]
  | cons l r ih =>
    cases i with
    | zero => simp [total]
    | succ i => have := ih i; simp only [List.take_succ_cons, total]; omega
theorem total_at (ll : List (List Int)) (i : Nat) (h : i < ll.length) : (ll.getD i []).length ≤ total ll := by
  have h1 := total_take_succ ll i h
  have h2 := total_take_le ll (i + 1)
  omega
set_option maxHeartbeats 1000000 in
theorem c_laws_eqInt64SS (ll : List (List Int)) (h1 : total ll ≤ 1000000000 ∧ ll.length ≤ 1000000000) : AFn Try.prog 36 [.sl false 25 (rowsF ll), .sl false 25 (rowsF ll)] (.bool true) := by
  refine AFn.of' ttOk (by decide) Try.func36 Try.ntmps36 (by rw [Try.results36]) (by rfl) (by rfl) (by simp) (by decide) (by simp only [go_sem, Nat.reduceAdd, ↓reduceIte]; rfl) mixed (fun C hP hM hC => ?_)
  (repeat (first | ((with_reducible refine rgn_cons rfl (fun K hK => ?_)); simp only [go_sem, seval, ↓reduceIte, decide_true, decide_false]; (refine hK _ _ _ (by simp only [go_sem, Nat.reduceEqDiff, ↓reduceIte]; rfl) ?_); clear hK; clear K) | (with_reducible first | refine rgn_nil (by first | trivial | kernel_rfl) ?_ | refine AWP.seq ?_ | refine tX hC hP (by kernel_rfl) ?_ | refine aX hC hM hP (by kernel_rfl) ?_ | refine AWP.skip ?_ | refine AWP.label ?_ | refine AWP.exit ?_ | refine AWP.block ?_ | refine cTa ?_ | refine cFa ?_) | simp only [qS, Nat.reduceEqDiff, ↓reduceIte]))
  refine AWP.loop (fun i : Nat => [(5, ⟨0, .val (.int .i64 i)⟩), (0, ⟨0, .val (.sl false 25 (rowsF ll))⟩), (1, ⟨0, .val (.sl false 25 (rowsF ll))⟩)]) (fun i => i ≤ ll.length) (fun i => ll.length - i) 0 (Nat.zero_le _) (fun i => rfl) ?_ (fun i hi => ?_)
  · simp [Sub, lk]
  · (repeat (first | ((with_reducible refine rgn_cons rfl (fun K hK => ?_)); simp only [go_sem, seval, ↓reduceIte, decide_true, decide_false]; (refine hK _ _ _ (by simp only [go_sem, Nat.reduceEqDiff, ↓reduceIte]; rfl) ?_); clear hK; clear K) | (with_reducible first | refine rgn_nil (by first | trivial | kernel_rfl) ?_ | refine AWP.seq ?_ | refine tX hC hP (by kernel_rfl) ?_ | refine aX hC hM hP (by kernel_rfl) ?_ | refine AWP.skip ?_ | refine AWP.label ?_ | refine AWP.exit ?_ | refine AWP.block ?_ | refine cTa ?_ | refine cFa ?_) | simp only [qS, Nat.reduceEqDiff, ↓reduceIte]))
    refine AWP.cond (by decide) rfl (fun h => ?_) (fun h => ?_)
    · have hlt : i < ll.length := by simpa using h
      have hI : (i : Int) < (ll.length : Int) := by omega
      (repeat (first | ((with_reducible refine rgn_cons rfl (fun K hK => ?_)); simp only [go_sem, seval, ↓reduceIte, decide_true, decide_false, rowsF_getD ll i hlt, Int.toNat_natCast, Int.natCast_nonneg, hI, wid ((i : Int) + 1) (by omega) (by omega)]; (first | refine hK _ _ _ (by simp only [go_sem, Nat.reduceEqDiff, ↓reduceIte]; rfl) ?_ | refine ⟨_, c_laws_eqInt64S (ll.getD i []) (by have := total_at ll i hlt; omega), hK _ _ _ (by simp only [go_sem, Nat.reduceEqDiff, ↓reduceIte]; rfl) ?_⟩); clear hK; clear K) | (with_reducible first | refine rgn_nil (by first | trivial | kernel_rfl) ?_ | refine AWP.seq ?_ | refine tX hC hP (by kernel_rfl) ?_ | refine aX hC hM hP (by kernel_rfl) ?_ | refine AWP.skip ?_ | refine AWP.label ?_ | refine AWP.exit ?_ | refine AWP.block ?_ | refine cTa ?_ | refine cFa ?_) | simp only [qS, Nat.reduceEqDiff, ↓reduceIte]))
      exact ⟨i + 1, hlt, by omega, by simp [Sub, lk]⟩
    · (repeat (first | ((with_reducible refine rgn_cons rfl (fun K hK => ?_)); simp only [go_sem, seval, ↓reduceIte, decide_true, decide_false]; (refine hK _ _ _ (by simp only [go_sem, Nat.reduceEqDiff, ↓reduceIte]; rfl) ?_); clear hK; clear K) | (with_reducible first | refine rgn_nil (by first | trivial | kernel_rfl) ?_ | refine AWP.seq ?_ | refine tX hC hP (by kernel_rfl) ?_ | refine aX hC hM hP (by kernel_rfl) ?_ | refine AWP.skip ?_ | refine AWP.label ?_ | refine AWP.exit ?_ | refine AWP.block ?_ | refine cTa ?_ | refine cFa ?_) | simp only [qS, Nat.reduceEqDiff, ↓reduceIte]))
      (refine AWP.ret ?_; refine retOk1 (by simp only [go_sem, seval, ↓reduceIte, decide_true, decide_false]; rfl) ?_)
      rfl
end Go.Proofs.Ytfnfdjomkohfjaa
