/-
  Powers of series: the program's; multiples of big vectors.
-/
import Derived.Test.YtccjfbfebgfgoaaLi
import Derived.Test.YtccjfbfebgfgoaaLl
namespace Go.Proofs.Ytccjfbfebgfgoaa
open Go.RowKit
set_option linter.unusedSimpArgs false
set_option linter.unusedVariables false
set_option linter.unusedSectionVars false
set_option maxRecDepth 20000
-- Powers of series: the program's; multiples of big vectors.
theorem c_impl_Series_power (m : Int) (la : List Int) (k d : Nat) (hm : 1 < m) (hm2 : m ≤ 10000) (ha : ∀ x ∈ la, 0 ≤ x ∧ x < m) (hla : la.length = d + 1) (hd : d ≤ 999999) (hk : k ≤ 1000000000000) : AFn Try.prog 57 [.agg [.int .i64 m, .sl false 2 (intL la)], .int .i64 k] (.agg [.int .i64 m, .sl true 2 (intL (powL m la k d))]) := by
  refine AFn.of' ttOk (by decide) Try.func57 Try.ntmps57 (by rw [Try.results57]) (by rfl) (by rfl) (by simp) (by decide) (by simp only [go_sem, Nat.reduceAdd, ↓reduceIte]; rfl) mixed (fun C hP hM hC => ?_)
  have e1 : (1 : Int) % m = 1 := Int.emod_eq_of_lt (by omega) (by omega)
  have hc := c_impl_Series_constant m la 1 (by omega) (by omega) (by omega) (by omega)
  rw [e1, hla, oneL_of] at hc
  (repeat (first | ((with_reducible refine rgn_cons rfl (fun K hK => ?_)); simp only [go_sem, seval, ↓reduceIte, decide_true, decide_false]; (first | refine hK _ _ _ (by simp only [go_sem, Nat.reduceEqDiff, ↓reduceIte]; rfl) ?_ | refine ⟨_, hc, hK _ _ _ (by simp only [go_sem, Nat.reduceEqDiff, ↓reduceIte]; rfl) ?_⟩); clear hK; clear K) | (with_reducible first | refine rgn_nil (by first | trivial | kernel_rfl) ?_ | refine AWP.seq ?_ | refine tX hC hP (by kernel_rfl) ?_ | refine aX hC hM hP (by kernel_rfl) ?_ | refine AWP.skip ?_ | refine AWP.label ?_ | refine AWP.exit ?_ | refine AWP.block ?_ | refine cT (by simp only [go_sem, Nat.reduceEqDiff, ↓reduceIte]; with_reducible rfl) ?_ | refine cF (by simp only [go_sem, Nat.reduceEqDiff, ↓reduceIte]; with_reducible rfl) ?_) | simp only [qS, Nat.reduceEqDiff, ↓reduceIte]))
  refine AWP.loop (fun w : Nat × List Int × List Int × Nat × Option Nat => match w with
    | (j, o, b, v5, none) => [(1, ⟨0, .val (.int .i64 j)⟩), (5, ⟨v5, .own (.box 26 (.agg [.int .i64 m, .sl true 2 (intL o)]))⟩), (2, ⟨1, .own (.box 26 (.agg [.int .i64 m, .sl false 2 (intL b)]))⟩), (4, ⟨1, .own (.box 26 (.agg [.int .i64 0, .nil]))⟩)]
    | (j, o, b, v5, some v2) => [(1, ⟨0, .val (.int .i64 j)⟩), (5, ⟨v5, .own (.box 26 (.agg [.int .i64 m, .sl true 2 (intL o)]))⟩), (2, ⟨v2, .own (.box 26 (.agg [.int .i64 m, .sl true 2 (intL b)]))⟩), (4, ⟨1, .own (.box 26 (.agg [.int .i64 0, .nil]))⟩)]) (fun w => w.1 ≤ k ∧ (w.2.1.length = d + 1 ∧ ∀ x ∈ w.2.1, 0 ≤ x ∧ x < m) ∧ (w.2.2.1.length = d + 1 ∧ ∀ x ∈ w.2.2.1, 0 ≤ x ∧ x < m) ∧ pwL m d w.2.1 w.2.2.1 w.1 = powL m la k d) (fun w => w.1) (k, oneL d, la, 2, none) ⟨Nat.le_refl _, ⟨oneL_length d, oneL_num d hm⟩, ⟨hla, ha⟩, rfl⟩ (fun w => by obtain ⟨_, _, _, _, x⟩ := w; cases x <;> rfl) ?_ (fun w hw => ?_)
  · simp [Sub, lk]
  · obtain ⟨j, o, b, v5, v2⟩ := w
    simp only at hw
    obtain ⟨hj, ho, hb, hE⟩ := hw
    have hT1 := c_impl_Series_times m o b d (by omega) hm2 ho.2 hb.2 ho.1 hb.1 (by omega)
    have hT2 := c_impl_Series_times m b b d (by omega) hm2 hb.2 hb.2 hb.1 hb.1 (by omega)
    cases v2 with
    | none =>
      simp only
      by_cases hs : 0 < j
      · have hs' : (0 : Int) < (j : Int) := by omega
        by_cases ho2 : j % 2 = 1
        · (repeat (first | ((with_reducible refine rgn_cons rfl (fun K hK => ?_)); simp only [go_sem, seval, ↓reduceIte, decide_true, decide_false, hs', nat_tmod2, nat_tdiv2, ho2, Int.cast_ofNat_Int, show (2 : Int) ≠ 0 by omega, wid ((j / 2 : Nat) : Int) (by omega) (by omega)]; (first | refine hK _ _ _ (by simp only [go_sem, Nat.reduceEqDiff, ↓reduceIte]; rfl) ?_ | refine ⟨_, hT1, hK _ _ _ (by simp only [go_sem, Nat.reduceEqDiff, ↓reduceIte]; rfl) ?_⟩ | refine ⟨_, hT2, hK _ _ _ (by simp only [go_sem, Nat.reduceEqDiff, ↓reduceIte]; rfl) ?_⟩); clear hK; clear K) | (with_reducible first | refine rgn_nil (by first | trivial | kernel_rfl) ?_ | refine AWP.seq ?_ | refine tX hC hP (by kernel_rfl) ?_ | refine aX hC hM hP (by kernel_rfl) ?_ | refine AWP.skip ?_ | refine AWP.label ?_ | refine AWP.exit ?_ | refine AWP.block ?_ | refine cT (by simp only [go_sem, Nat.reduceEqDiff, ↓reduceIte]; with_reducible rfl) ?_ | refine cF (by simp only [go_sem, Nat.reduceEqDiff, ↓reduceIte]; with_reducible rfl) ?_) | simp only [qS, Nat.reduceEqDiff, ↓reduceIte]))
          exact ⟨(j / 2, timesL m o b d, timesL m b b d, v5 + 1, some 2), ⟨by simp only; omega, ⟨timesL_length _ _ _ _, timesL_num _ _ _ _ (by omega)⟩, ⟨timesL_length _ _ _ _, timesL_num _ _ _ _ (by omega)⟩, by rw [← hE]; exact (pwL_odd ho2).symm⟩, by simp only; omega, by simp [Sub, lk]⟩
        · have ho3 : j % 2 = 0 := by omega
          (repeat (first | ((with_reducible refine rgn_cons rfl (fun K hK => ?_)); simp only [go_sem, seval, ↓reduceIte, decide_true, decide_false, hs', nat_tmod2, nat_tdiv2, ho3, Int.cast_ofNat_Int, Int.natCast_zero, show (2 : Int) ≠ 0 by omega, wid ((j / 2 : Nat) : Int) (by omega) (by omega)]; (first | refine hK _ _ _ (by simp only [go_sem, Nat.reduceEqDiff, ↓reduceIte]; rfl) ?_ | refine ⟨_, hT2, hK _ _ _ (by simp only [go_sem, Nat.reduceEqDiff, ↓reduceIte]; rfl) ?_⟩); clear hK; clear K) | (with_reducible first | refine rgn_nil (by first | trivial | kernel_rfl) ?_ | refine AWP.seq ?_ | refine tX hC hP (by kernel_rfl) ?_ | refine aX hC hM hP (by kernel_rfl) ?_ | refine AWP.skip ?_ | refine AWP.label ?_ | refine AWP.exit ?_ | refine AWP.block ?_ | refine cT (by simp only [go_sem, Nat.reduceEqDiff, ↓reduceIte]; with_reducible rfl) ?_ | refine cF (by simp only [go_sem, Nat.reduceEqDiff, ↓reduceIte]; with_reducible rfl) ?_) | simp only [qS, Nat.reduceEqDiff, ↓reduceIte]))
          exact ⟨(j / 2, o, timesL m b b d, v5, some 2), ⟨by simp only; omega, ho, ⟨timesL_length _ _ _ _, timesL_num _ _ _ _ (by omega)⟩, by rw [← hE]; exact (pwL_even hs ho3).symm⟩, by simp only; omega, by simp [Sub, lk]⟩
      · have hj0 : j = 0 := by omega
        subst hj0
        (repeat (first | ((with_reducible refine rgn_cons rfl (fun K hK => ?_)); simp only [go_sem, seval, ↓reduceIte, decide_true, decide_false, show ¬ (0 : Int) < ((0 : Nat) : Int) by omega, Int.natCast_zero, decide_false]; (refine hK _ _ _ (by simp only [go_sem, Nat.reduceEqDiff, ↓reduceIte]; rfl) ?_); clear hK; clear K) | (with_reducible first | refine rgn_nil (by first | trivial | kernel_rfl) ?_ | refine AWP.seq ?_ | refine tX hC hP (by kernel_rfl) ?_ | refine aX hC hM hP (by kernel_rfl) ?_ | refine AWP.skip ?_ | refine AWP.label ?_ | refine AWP.exit ?_ | refine AWP.block ?_ | refine cT (by simp only [go_sem, Nat.reduceEqDiff, ↓reduceIte]; with_reducible rfl) ?_ | refine cF (by simp only [go_sem, Nat.reduceEqDiff, ↓reduceIte]; with_reducible rfl) ?_) | simp only [qS, Nat.reduceEqDiff, ↓reduceIte]))
        (refine AWP.ret ?_; first | refine retOk1 (by simp only [go_sem, seval, ↓reduceIte, decide_true, decide_false]; rfl) ?_ | refine retOk2 (by simp only [go_sem, seval, ↓reduceIte, decide_true, decide_false]; rfl) (by simp only [go_sem, seval, ↓reduceIte, decide_true, decide_false]; rfl) (by simp) ?_ | refine retOk3 (by simp only [go_sem, seval, ↓reduceIte, decide_true, decide_false]; rfl) (by simp only [go_sem, seval, ↓reduceIte, decide_true, decide_false]; rfl) (by simp only [go_sem, seval, ↓reduceIte, decide_true, decide_false]; rfl) (by simp) ?_)
        rw [← hE, pwL_zero]
    | some v2 =>
      simp only
      by_cases hs : 0 < j
      · have hs' : (0 : Int) < (j : Int) := by omega
        by_cases ho2 : j % 2 = 1
        · (repeat (first | ((with_reducible refine rgn_cons rfl (fun K hK => ?_)); simp only [go_sem, seval, ↓reduceIte, decide_true, decide_false, hs', nat_tmod2, nat_tdiv2, ho2, Int.cast_ofNat_Int, show (2 : Int) ≠ 0 by omega, wid ((j / 2 : Nat) : Int) (by omega) (by omega)]; (first | refine hK _ _ _ (by simp only [go_sem, Nat.reduceEqDiff, ↓reduceIte]; rfl) ?_ | refine ⟨_, hT1, hK _ _ _ (by simp only [go_sem, Nat.reduceEqDiff, ↓reduceIte]; rfl) ?_⟩ | refine ⟨_, hT2, hK _ _ _ (by simp only [go_sem, Nat.reduceEqDiff, ↓reduceIte]; rfl) ?_⟩); clear hK; clear K) | (with_reducible first | refine rgn_nil (by first | trivial | kernel_rfl) ?_ | refine AWP.seq ?_ | refine tX hC hP (by kernel_rfl) ?_ | refine aX hC hM hP (by kernel_rfl) ?_ | refine AWP.skip ?_ | refine AWP.label ?_ | refine AWP.exit ?_ | refine AWP.block ?_ | refine cT (by simp only [go_sem, Nat.reduceEqDiff, ↓reduceIte]; with_reducible rfl) ?_ | refine cF (by simp only [go_sem, Nat.reduceEqDiff, ↓reduceIte]; with_reducible rfl) ?_) | simp only [qS, Nat.reduceEqDiff, ↓reduceIte]))
          exact ⟨(j / 2, timesL m o b d, timesL m b b d, v5 + 1, some (v2 + 1)), ⟨by simp only; omega, ⟨timesL_length _ _ _ _, timesL_num _ _ _ _ (by omega)⟩, ⟨timesL_length _ _ _ _, timesL_num _ _ _ _ (by omega)⟩, by rw [← hE]; exact (pwL_odd ho2).symm⟩, by simp only; omega, by simp [Sub, lk]⟩
        · have ho3 : j % 2 = 0 := by omega
          (repeat (first | ((with_reducible refine rgn_cons rfl (fun K hK => ?_)); simp only [go_sem, seval, ↓reduceIte, decide_true, decide_false, hs', nat_tmod2, nat_tdiv2, ho3, Int.cast_ofNat_Int, Int.natCast_zero, show (2 : Int) ≠ 0 by omega, wid ((j / 2 : Nat) : Int) (by omega) (by omega)]; (first | refine hK _ _ _ (by simp only [go_sem, Nat.reduceEqDiff, ↓reduceIte]; rfl) ?_ | refine ⟨_, hT2, hK _ _ _ (by simp only [go_sem, Nat.reduceEqDiff, ↓reduceIte]; rfl) ?_⟩); clear hK; clear K) | (with_reducible first | refine rgn_nil (by first | trivial | kernel_rfl) ?_ | refine AWP.seq ?_ | refine tX hC hP (by kernel_rfl) ?_ | refine aX hC hM hP (by kernel_rfl) ?_ | refine AWP.skip ?_ | refine AWP.label ?_ | refine AWP.exit ?_ | refine AWP.block ?_ | refine cT (by simp only [go_sem, Nat.reduceEqDiff, ↓reduceIte]; with_reducible rfl) ?_ | refine cF (by simp only [go_sem, Nat.reduceEqDiff, ↓reduceIte]; with_reducible rfl) ?_) | simp only [qS, Nat.reduceEqDiff, ↓reduceIte]))
          exact ⟨(j / 2, o, timesL m b b d, v5, some (v2 + 1)), ⟨by simp only; omega, ho, ⟨timesL_length _ _ _ _, timesL_num _ _ _ _ (by omega)⟩, by rw [← hE]; exact (pwL_even hs ho3).symm⟩, by simp only; omega, by simp [Sub, lk]⟩
      · have hj0 : j = 0 := by omega
        subst hj0
        (repeat (first | ((with_reducible refine rgn_cons rfl (fun K hK => ?_)); simp only [go_sem, seval, ↓reduceIte, decide_true, decide_false, show ¬ (0 : Int) < ((0 : Nat) : Int) by omega, Int.natCast_zero, decide_false]; (refine hK _ _ _ (by simp only [go_sem, Nat.reduceEqDiff, ↓reduceIte]; rfl) ?_); clear hK; clear K) | (with_reducible first | refine rgn_nil (by first | trivial | kernel_rfl) ?_ | refine AWP.seq ?_ | refine tX hC hP (by kernel_rfl) ?_ | refine aX hC hM hP (by kernel_rfl) ?_ | refine AWP.skip ?_ | refine AWP.label ?_ | refine AWP.exit ?_ | refine AWP.block ?_ | refine cT (by simp only [go_sem, Nat.reduceEqDiff, ↓reduceIte]; with_reducible rfl) ?_ | refine cF (by simp only [go_sem, Nat.reduceEqDiff, ↓reduceIte]; with_reducible rfl) ?_) | simp only [qS, Nat.reduceEqDiff, ↓reduceIte]))
        (refine AWP.ret ?_; first | refine retOk1 (by simp only [go_sem, seval, ↓reduceIte, decide_true, decide_false]; rfl) ?_ | refine retOk2 (by simp only [go_sem, seval, ↓reduceIte, decide_true, decide_false]; rfl) (by simp only [go_sem, seval, ↓reduceIte, decide_true, decide_false]; rfl) (by simp) ?_ | refine retOk3 (by simp only [go_sem, seval, ↓reduceIte, decide_true, decide_false]; rfl) (by simp only [go_sem, seval, ↓reduceIte, decide_true, decide_false]; rfl) (by simp only [go_sem, seval, ↓reduceIte, decide_true, decide_false]; rfl) (by simp) ?_)
        rw [← hE, pwL_zero]
end Go.Proofs.Ytccjfbfebgfgoaa
