/-
  Codes; series of powers.
-/
import Derived.Test.YtamdpfnmclkljaaLc
import Derived.Test.YtamdpfnmclkljaaPa
namespace Go.Proofs.Ytamdpfnmclkljaa
open Go.RowKit
set_option linter.unusedSimpArgs false
set_option linter.unusedVariables false
set_option linter.unusedSectionVars false
set_option maxRecDepth 20000
-- Codes; series of powers.
def codeN (m : Int) (l : List Int) : Int := if (decide (2 ≤ m) && decide (m ≤ 10000)) = true then (if l.all (isNum m) then 0 else 2) else 1
theorem codeN_zero {m : Int} {l : List Int} (h : codeN m l = 0) : 2 ≤ m ∧ m ≤ 10000 ∧ ∀ x ∈ l, 0 ≤ x ∧ x < m := by
  unfold codeN at h
  split at h
  · rename_i hm
    simp only [Bool.and_eq_true, decide_eq_true_eq] at hm
    split at h
    · rename_i hs
      rw [List.all_eq_true] at hs
      refine ⟨hm.1, hm.2, fun x hx => ?_⟩
      have := hs x hx
      simp only [isNum, Bool.and_eq_true, decide_eq_true_eq] at this
      omega
    · cases h
  · cases h
theorem c_impl_mod (n m : Int) (h : 0 < m) (h2 : m ≤ 4611686018427387904) : AFn Try.prog 160 [.int .i64 n, .int .i64 m] (.int .i64 (n % m)) := by
  refine AFn.of' ttOk (by decide) Try.func160 Try.ntmps160 (by rw [Try.results160]) (by rfl) (by rfl) (by simp) (by decide) (by simp only [go_sem, Nat.reduceAdd, ↓reduceIte]; rfl) mixed (fun C hP hM hC => ?_)
  have h1 := Int.neg_lt_tmod_of_pos' n h
  (repeat (first | ((with_reducible refine rgn_cons rfl (fun K hK => ?_)); simp only [go_sem, seval, ↓reduceIte, decide_true, decide_false, show m ≠ 0 by omega, wid (n.tmod m + m) (by omega) (by omega), go_mod n m h]; (refine hK _ _ _ (by simp only [go_sem, Nat.reduceEqDiff, ↓reduceIte]; rfl) ?_); clear hK; clear K) | (with_reducible first | refine rgn_nil (by first | trivial | kernel_rfl) ?_ | refine AWP.seq ?_ | refine tX hC hP (by kernel_rfl) ?_ | refine aX hC hM hP (by kernel_rfl) ?_ | refine AWP.skip ?_ | refine AWP.label ?_ | refine AWP.exit ?_ | refine AWP.block ?_ | refine cT (by simp only [go_sem, Nat.reduceEqDiff, ↓reduceIte]; with_reducible rfl) ?_ | refine cF (by simp only [go_sem, Nat.reduceEqDiff, ↓reduceIte]; with_reducible rfl) ?_) | simp only [qS, Nat.reduceEqDiff, ↓reduceIte]))
  (refine AWP.ret ?_; first | refine retOk1 (by simp only [go_sem, seval, ↓reduceIte, decide_true, decide_false]; rfl) ?_ | refine retOk2 (by simp only [go_sem, seval, ↓reduceIte, decide_true, decide_false]; rfl) (by simp only [go_sem, seval, ↓reduceIte, decide_true, decide_false]; rfl) (by simp) ?_ | refine retOk3 (by simp only [go_sem, seval, ↓reduceIte, decide_true, decide_false]; rfl) (by simp only [go_sem, seval, ↓reduceIte, decide_true, decide_false]; rfl) (by simp only [go_sem, seval, ↓reduceIte, decide_true, decide_false]; rfl) (by simp) ?_)
  rfl
theorem c_impl_zero (m d : Int) (n : Nat) (hd : d + 1 = n) (hn : n ≤ 1099511627776) : AFn Try.prog 129 [.int .i64 m, .int .i64 d] (.agg [.int .i64 m, .sl true 2 (intL (tab n (fun _ => 0)))]) := by
  refine AFn.of' ttOk (by decide) Try.func129 Try.ntmps129 (by rw [Try.results129]) (by rfl) (by rfl) (by simp) (by decide) (by simp only [go_sem, Nat.reduceAdd, ↓reduceIte]; rfl) mixed (fun C hP hM hC => ?_)
  (repeat (first | ((with_reducible refine rgn_cons rfl (fun K hK => ?_)); simp only [go_sem, seval, ↓reduceIte, decide_true, decide_false, wid (n : Int) (by omega) (by omega), hd, Int.natCast_nonneg, Int.toNat_natCast, show (n : Int) ≤ 1099511627776 by omega, intL_replicate, tab_zero, sizeL_intL]; (refine hK _ _ _ (by simp only [go_sem, Nat.reduceEqDiff, ↓reduceIte]; rfl) ?_); clear hK; clear K) | (with_reducible first | refine rgn_nil (by first | trivial | kernel_rfl) ?_ | refine AWP.seq ?_ | refine tX hC hP (by kernel_rfl) ?_ | refine aX hC hM hP (by kernel_rfl) ?_ | refine AWP.skip ?_ | refine AWP.label ?_ | refine AWP.exit ?_ | refine AWP.block ?_ | refine cT (by simp only [go_sem, Nat.reduceEqDiff, ↓reduceIte]; with_reducible rfl) ?_ | refine cF (by simp only [go_sem, Nat.reduceEqDiff, ↓reduceIte]; with_reducible rfl) ?_) | simp only [qS, Nat.reduceEqDiff, ↓reduceIte]))
  (refine AWP.ret ?_; first | refine retOk1 (by simp only [go_sem, seval, ↓reduceIte, decide_true, decide_false]; rfl) ?_ | refine retOk2 (by simp only [go_sem, seval, ↓reduceIte, decide_true, decide_false]; rfl) (by simp only [go_sem, seval, ↓reduceIte, decide_true, decide_false]; rfl) (by simp) ?_ | refine retOk3 (by simp only [go_sem, seval, ↓reduceIte, decide_true, decide_false]; rfl) (by simp only [go_sem, seval, ↓reduceIte, decide_true, decide_false]; rfl) (by simp only [go_sem, seval, ↓reduceIte, decide_true, decide_false]; rfl) (by simp) ?_)
  rfl
end Go.Proofs.Ytamdpfnmclkljaa
