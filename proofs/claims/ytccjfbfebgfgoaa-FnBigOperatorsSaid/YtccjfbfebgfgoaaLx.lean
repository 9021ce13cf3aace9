/-
  RepresentativeBig.
-/
import Derived.Test.YtccjfbfebgfgoaaLf
import Derived.Test.YtccjfbfebgfgoaaLm
import Derived.Test.YtccjfbfebgfgoaaLo
import Derived.Test.YtccjfbfebgfgoaaLp
import Derived.Test.YtccjfbfebgfgoaaLs
namespace Go.Proofs.Ytccjfbfebgfgoaa
open Go.RowKit
set_option linter.unusedSimpArgs false
set_option linter.unusedVariables false
set_option linter.unusedSectionVars false
set_option maxRecDepth 20000
-- RepresentativeBig.
def repC (m d x : Int) : Int := if codeN m [x] = 0 then (if (decide (1 ≤ d) && decide (d ≤ 10)) = true then 0 else 2) else codeN m [x]
theorem repC_zero {m d x : Int} (h : repC m d x = 0) : 2 ≤ m ∧ m ≤ 10000 ∧ 0 ≤ x ∧ x < m ∧ 1 ≤ d ∧ d ≤ 10 ∧ codeN m [x] = 0 := by
  unfold repC at h
  split at h
  · rename_i h1
    have h2 := codeN_zero h1
    split at h
    · rename_i h3
      simp only [Bool.and_eq_true, decide_eq_true_eq] at h3
      exact ⟨h2.1, h2.2.1, (h2.2.2 x (by simp)).1, (h2.2.2 x (by simp)).2, h3.1, h3.2, h1⟩
    · cases h
  · rename_i h1; exact absurd h h1
theorem c_impl_RepresentativeBig_ok (m d x : Int) (h : repC m d x = 0) : AFn Try.prog 15 [.int .i64 m, .int .i64 d, .int .i64 x] (.tup [.agg [.int .i64 m, .sl true 2 (intL (geo m x 1 d.toNat))], .int .i64 (repC m d x)]) := by
  refine AFn.of' ttOk (by decide) Try.func15 Try.ntmps15 (by rw [Try.results15]) (by rfl) (by rfl) (by simp) (by decide) (by simp only [go_sem, Nat.reduceAdd, ↓reduceIte]; rfl) mixed (fun C hP hM hC => ?_)
  have hb := repC_zero h
  have hd : (decide (1 ≤ d) && decide (d ≤ 10)) = true := by simp [hb]
  have hg := c_impl_Series_geometric m x (tab (d.toNat + 1) (fun _ => 0)) 1 (by rw [tab_length]; omega) (by rw [tab_length]; omega) (by omega) (by omega) (by omega) (by omega) (by omega) (by omega)
  rw [tab_length, Nat.add_sub_cancel] at hg
  (repeat (first | ((with_reducible refine rgn_cons rfl (fun K hK => ?_)); simp only [go_sem, seval, ↓reduceIte, decide_true, decide_false, hb.2.2.2.2.2.2, hd]; (first | refine hK _ _ _ (by simp only [go_sem, Nat.reduceEqDiff, ↓reduceIte]; rfl) ?_ | refine ⟨_, c_impl_modular m [x] (by simp), hK _ _ _ (by simp only [go_sem, Nat.reduceEqDiff, ↓reduceIte]; rfl) ?_⟩ | refine ⟨_, c_impl_in _ _ _, hK _ _ _ (by simp only [go_sem, Nat.reduceEqDiff, ↓reduceIte]; rfl) ?_⟩ | refine ⟨_, c_impl_zero m d (d.toNat + 1) (by omega) (by omega), hK _ _ _ (by simp only [go_sem, Nat.reduceEqDiff, ↓reduceIte]; rfl) ?_⟩ | refine ⟨_, hg, hK _ _ _ (by simp only [go_sem, Nat.reduceEqDiff, ↓reduceIte]; rfl) ?_⟩); clear hK; clear K) | (with_reducible first | refine rgn_nil (by first | trivial | kernel_rfl) ?_ | refine AWP.seq ?_ | refine tX hC hP (by kernel_rfl) ?_ | refine aX hC hM hP (by kernel_rfl) ?_ | refine AWP.skip ?_ | refine AWP.label ?_ | refine AWP.exit ?_ | refine AWP.block ?_ | refine cT (by simp only [go_sem, Nat.reduceEqDiff, ↓reduceIte]; with_reducible rfl) ?_ | refine cF (by simp only [go_sem, Nat.reduceEqDiff, ↓reduceIte]; with_reducible rfl) ?_) | simp only [qS, Nat.reduceEqDiff, ↓reduceIte]))
  (refine AWP.ret ?_; first | refine retOk1 (by simp only [go_sem, seval, ↓reduceIte, decide_true, decide_false]; rfl) ?_ | refine retOk2 (by simp only [go_sem, seval, ↓reduceIte, decide_true, decide_false]; rfl) (by simp only [go_sem, seval, ↓reduceIte, decide_true, decide_false]; rfl) (by simp) ?_ | refine retOk3 (by simp only [go_sem, seval, ↓reduceIte, decide_true, decide_false]; rfl) (by simp only [go_sem, seval, ↓reduceIte, decide_true, decide_false]; rfl) (by simp only [go_sem, seval, ↓reduceIte, decide_true, decide_false]; rfl) (by simp) ?_)
  rw [h]
theorem c_impl_RepresentativeBig_no (m d x : Int) (h : ¬ repC m d x = 0) : AFn Try.prog 15 [.int .i64 m, .int .i64 d, .int .i64 x] (.tup [.agg [.int .i64 0, .nil], .int .i64 (repC m d x)]) := by
  refine AFn.of' ttOk (by decide) Try.func15 Try.ntmps15 (by rw [Try.results15]) (by rfl) (by rfl) (by simp) (by decide) (by simp only [go_sem, Nat.reduceAdd, ↓reduceIte]; rfl) mixed (fun C hP hM hC => ?_)
  by_cases h1 : codeN m [x] = 0
  · have hd : (decide (1 ≤ d) && decide (d ≤ 10)) = false := by
      cases hx : (decide (1 ≤ d) && decide (d ≤ 10)) with
      | false => rfl
      | true => exact absurd (by simp [repC, h1, hx]) h
    (repeat (first | ((with_reducible refine rgn_cons rfl (fun K hK => ?_)); simp only [go_sem, seval, ↓reduceIte, decide_true, decide_false, h1, hd]; (first | refine hK _ _ _ (by simp only [go_sem, Nat.reduceEqDiff, ↓reduceIte]; rfl) ?_ | refine ⟨_, c_impl_modular m [x] (by simp), hK _ _ _ (by simp only [go_sem, Nat.reduceEqDiff, ↓reduceIte]; rfl) ?_⟩ | refine ⟨_, c_impl_in _ _ _, hK _ _ _ (by simp only [go_sem, Nat.reduceEqDiff, ↓reduceIte]; rfl) ?_⟩); clear hK; clear K) | (with_reducible first | refine rgn_nil (by first | trivial | kernel_rfl) ?_ | refine AWP.seq ?_ | refine tX hC hP (by kernel_rfl) ?_ | refine aX hC hM hP (by kernel_rfl) ?_ | refine AWP.skip ?_ | refine AWP.label ?_ | refine AWP.exit ?_ | refine AWP.block ?_ | refine cT (by simp only [go_sem, Nat.reduceEqDiff, ↓reduceIte]; with_reducible rfl) ?_ | refine cF (by simp only [go_sem, Nat.reduceEqDiff, ↓reduceIte]; with_reducible rfl) ?_) | simp only [qS, Nat.reduceEqDiff, ↓reduceIte]))
    (refine AWP.ret ?_; first | refine retOk1 (by simp only [go_sem, seval, ↓reduceIte, decide_true, decide_false]; rfl) ?_ | refine retOk2 (by simp only [go_sem, seval, ↓reduceIte, decide_true, decide_false]; rfl) (by simp only [go_sem, seval, ↓reduceIte, decide_true, decide_false]; rfl) (by simp) ?_ | refine retOk3 (by simp only [go_sem, seval, ↓reduceIte, decide_true, decide_false]; rfl) (by simp only [go_sem, seval, ↓reduceIte, decide_true, decide_false]; rfl) (by simp only [go_sem, seval, ↓reduceIte, decide_true, decide_false]; rfl) (by simp) ?_)
    simp [repC, h1, hd]
  · have hb : (codeN m [x] != 0) = true := by simp [h1]
    (repeat (first | ((with_reducible refine rgn_cons rfl (fun K hK => ?_)); simp only [go_sem, seval, ↓reduceIte, decide_true, decide_false, hb]; (first | refine hK _ _ _ (by simp only [go_sem, Nat.reduceEqDiff, ↓reduceIte]; rfl) ?_ | refine ⟨_, c_impl_modular m [x] (by simp), hK _ _ _ (by simp only [go_sem, Nat.reduceEqDiff, ↓reduceIte]; rfl) ?_⟩ | refine ⟨_, c_impl_in _ _ _, hK _ _ _ (by simp only [go_sem, Nat.reduceEqDiff, ↓reduceIte]; rfl) ?_⟩); clear hK; clear K) | (with_reducible first | refine rgn_nil (by first | trivial | kernel_rfl) ?_ | refine AWP.seq ?_ | refine tX hC hP (by kernel_rfl) ?_ | refine aX hC hM hP (by kernel_rfl) ?_ | refine AWP.skip ?_ | refine AWP.label ?_ | refine AWP.exit ?_ | refine AWP.block ?_ | refine cT (by simp only [go_sem, Nat.reduceEqDiff, ↓reduceIte]; with_reducible rfl) ?_ | refine cF (by simp only [go_sem, Nat.reduceEqDiff, ↓reduceIte]; with_reducible rfl) ?_) | simp only [qS, Nat.reduceEqDiff, ↓reduceIte]))
    (refine AWP.ret ?_; first | refine retOk1 (by simp only [go_sem, seval, ↓reduceIte, decide_true, decide_false]; rfl) ?_ | refine retOk2 (by simp only [go_sem, seval, ↓reduceIte, decide_true, decide_false]; rfl) (by simp only [go_sem, seval, ↓reduceIte, decide_true, decide_false]; rfl) (by simp) ?_ | refine retOk3 (by simp only [go_sem, seval, ↓reduceIte, decide_true, decide_false]; rfl) (by simp only [go_sem, seval, ↓reduceIte, decide_true, decide_false]; rfl) (by simp only [go_sem, seval, ↓reduceIte, decide_true, decide_false]; rfl) (by simp) ?_)
    simp [repC, h1]
-- MultipleOfBig.
/-- The code for a big vector and a number within bounds. -/
def bigC (m : Int) (l : List Int) (n lo hi : Int) : Int := if isBig m l = true then (if (decide (lo ≤ n) && decide (n ≤ hi)) = true then 0 else 2) else 1
theorem bigC_zero {m : Int} {l : List Int} {n lo hi : Int} (h : bigC m l n lo hi = 0) : isBig m l = true ∧ lo ≤ n ∧ n ≤ hi := by
  unfold bigC at h
  split at h
  · rename_i h1
    split at h
    · rename_i h2
      simp only [Bool.and_eq_true, decide_eq_true_eq] at h2
      exact ⟨h1, h2.1, h2.2⟩
    · cases h
  · cases h
theorem c_impl_MultipleOfBig_ok (m n : Int) (l : List Int) (hl : l.length ≤ 1099511627776) (h : bigC m l n 0 1000 = 0) : AFn Try.prog 17 [.agg [.int .i64 m, .sl false 2 (intL l)], .int .i64 n] (.tup [.agg [.int .i64 m, .sl true 2 (intL (powL m l n.toNat (l.length - 1)))], .int .i64 (bigC m l n 0 1000)]) := by
  refine AFn.of' ttOk (by decide) Try.func17 Try.ntmps17 (by rw [Try.results17]) (by rfl) (by rfl) (by simp) (by decide) (by simp only [go_sem, Nat.reduceAdd, ↓reduceIte]; rfl) mixed (fun C hP hM hC => ?_)
  have hz := bigC_zero h
  have f := isBig_facts hz.1
  have hd : (decide (0 ≤ n) && decide (n ≤ 1000)) = true := by simp [hz]
  have hA := c_impl_IsBigVector m l hl
  rw [hz.1] at hA
  have hPw := c_impl_Series_power m l n.toNat (l.length - 1) (by omega) (by omega) f.2.2.2.2.1 (by omega) (by omega) (by omega)
  rw [show (n.toNat : Int) = n by omega] at hPw
  (repeat (first | ((with_reducible refine rgn_cons rfl (fun K hK => ?_)); simp only [go_sem, seval, ↓reduceIte, decide_true, decide_false, hd]; (first | refine hK _ _ _ (by simp only [go_sem, Nat.reduceEqDiff, ↓reduceIte]; rfl) ?_ | refine ⟨_, hA, hK _ _ _ (by simp only [go_sem, Nat.reduceEqDiff, ↓reduceIte]; rfl) ?_⟩ | refine ⟨_, c_impl_in _ _ _, hK _ _ _ (by simp only [go_sem, Nat.reduceEqDiff, ↓reduceIte]; rfl) ?_⟩ | refine ⟨_, hPw, hK _ _ _ (by simp only [go_sem, Nat.reduceEqDiff, ↓reduceIte]; rfl) ?_⟩); clear hK; clear K) | (with_reducible first | refine rgn_nil (by first | trivial | kernel_rfl) ?_ | refine AWP.seq ?_ | refine tX hC hP (by kernel_rfl) ?_ | refine aX hC hM hP (by kernel_rfl) ?_ | refine AWP.skip ?_ | refine AWP.label ?_ | refine AWP.exit ?_ | refine AWP.block ?_ | refine cT (by simp only [go_sem, Nat.reduceEqDiff, ↓reduceIte]; with_reducible rfl) ?_ | refine cF (by simp only [go_sem, Nat.reduceEqDiff, ↓reduceIte]; with_reducible rfl) ?_) | simp only [qS, Nat.reduceEqDiff, ↓reduceIte]))
  (refine AWP.ret ?_; first | refine retOk1 (by simp only [go_sem, seval, ↓reduceIte, decide_true, decide_false]; rfl) ?_ | refine retOk2 (by simp only [go_sem, seval, ↓reduceIte, decide_true, decide_false]; rfl) (by simp only [go_sem, seval, ↓reduceIte, decide_true, decide_false]; rfl) (by simp) ?_ | refine retOk3 (by simp only [go_sem, seval, ↓reduceIte, decide_true, decide_false]; rfl) (by simp only [go_sem, seval, ↓reduceIte, decide_true, decide_false]; rfl) (by simp only [go_sem, seval, ↓reduceIte, decide_true, decide_false]; rfl) (by simp) ?_)
  rw [h]
theorem c_impl_MultipleOfBig_no (m n : Int) (l : List Int) (hl : l.length ≤ 1099511627776) (h : ¬ bigC m l n 0 1000 = 0) : AFn Try.prog 17 [.agg [.int .i64 m, .sl false 2 (intL l)], .int .i64 n] (.tup [.agg [.int .i64 0, .nil], .int .i64 (bigC m l n 0 1000)]) := by
  refine AFn.of' ttOk (by decide) Try.func17 Try.ntmps17 (by rw [Try.results17]) (by rfl) (by rfl) (by simp) (by decide) (by simp only [go_sem, Nat.reduceAdd, ↓reduceIte]; rfl) mixed (fun C hP hM hC => ?_)
  have hA := c_impl_IsBigVector m l hl
  cases c1 : isBig m l with
  | false =>
    rw [c1] at hA
    (repeat (first | ((with_reducible refine rgn_cons rfl (fun K hK => ?_)); simp only [go_sem, seval, ↓reduceIte, decide_true, decide_false]; (first | refine hK _ _ _ (by simp only [go_sem, Nat.reduceEqDiff, ↓reduceIte]; rfl) ?_ | refine ⟨_, hA, hK _ _ _ (by simp only [go_sem, Nat.reduceEqDiff, ↓reduceIte]; rfl) ?_⟩); clear hK; clear K) | (with_reducible first | refine rgn_nil (by first | trivial | kernel_rfl) ?_ | refine AWP.seq ?_ | refine tX hC hP (by kernel_rfl) ?_ | refine aX hC hM hP (by kernel_rfl) ?_ | refine AWP.skip ?_ | refine AWP.label ?_ | refine AWP.exit ?_ | refine AWP.block ?_ | refine cT (by simp only [go_sem, Nat.reduceEqDiff, ↓reduceIte]; with_reducible rfl) ?_ | refine cF (by simp only [go_sem, Nat.reduceEqDiff, ↓reduceIte]; with_reducible rfl) ?_) | simp only [qS, Nat.reduceEqDiff, ↓reduceIte]))
    (refine AWP.ret ?_; first | refine retOk1 (by simp only [go_sem, seval, ↓reduceIte, decide_true, decide_false]; rfl) ?_ | refine retOk2 (by simp only [go_sem, seval, ↓reduceIte, decide_true, decide_false]; rfl) (by simp only [go_sem, seval, ↓reduceIte, decide_true, decide_false]; rfl) (by simp) ?_ | refine retOk3 (by simp only [go_sem, seval, ↓reduceIte, decide_true, decide_false]; rfl) (by simp only [go_sem, seval, ↓reduceIte, decide_true, decide_false]; rfl) (by simp only [go_sem, seval, ↓reduceIte, decide_true, decide_false]; rfl) (by simp) ?_)
    simp [bigC, c1]
  | true =>
    rw [c1] at hA
    have hd : (decide (0 ≤ n) && decide (n ≤ 1000)) = false := by
      cases hx : (decide (0 ≤ n) && decide (n ≤ 1000)) with
      | false => rfl
      | true => exact absurd (by simp [bigC, c1, hx]) h
    (repeat (first | ((with_reducible refine rgn_cons rfl (fun K hK => ?_)); simp only [go_sem, seval, ↓reduceIte, decide_true, decide_false, hd]; (first | refine hK _ _ _ (by simp only [go_sem, Nat.reduceEqDiff, ↓reduceIte]; rfl) ?_ | refine ⟨_, hA, hK _ _ _ (by simp only [go_sem, Nat.reduceEqDiff, ↓reduceIte]; rfl) ?_⟩ | refine ⟨_, c_impl_in _ _ _, hK _ _ _ (by simp only [go_sem, Nat.reduceEqDiff, ↓reduceIte]; rfl) ?_⟩); clear hK; clear K) | (with_reducible first | refine rgn_nil (by first | trivial | kernel_rfl) ?_ | refine AWP.seq ?_ | refine tX hC hP (by kernel_rfl) ?_ | refine aX hC hM hP (by kernel_rfl) ?_ | refine AWP.skip ?_ | refine AWP.label ?_ | refine AWP.exit ?_ | refine AWP.block ?_ | refine cT (by simp only [go_sem, Nat.reduceEqDiff, ↓reduceIte]; with_reducible rfl) ?_ | refine cF (by simp only [go_sem, Nat.reduceEqDiff, ↓reduceIte]; with_reducible rfl) ?_) | simp only [qS, Nat.reduceEqDiff, ↓reduceIte]))
    (refine AWP.ret ?_; first | refine retOk1 (by simp only [go_sem, seval, ↓reduceIte, decide_true, decide_false]; rfl) ?_ | refine retOk2 (by simp only [go_sem, seval, ↓reduceIte, decide_true, decide_false]; rfl) (by simp only [go_sem, seval, ↓reduceIte, decide_true, decide_false]; rfl) (by simp) ?_ | refine retOk3 (by simp only [go_sem, seval, ↓reduceIte, decide_true, decide_false]; rfl) (by simp only [go_sem, seval, ↓reduceIte, decide_true, decide_false]; rfl) (by simp only [go_sem, seval, ↓reduceIte, decide_true, decide_false]; rfl) (by simp) ?_)
    simp [bigC, c1, hd]
-- NegateBig.
theorem c_impl_NegateBig_ok (m : Int) (l : List Int) (hl : l.length ≤ 1099511627776) (h : oneC m l = 0) : AFn Try.prog 16 [.agg [.int .i64 m, .sl false 2 (intL l)]] (.tup [.agg [.int .i64 m, .sl true 2 (intL (invS m l (l.length - 1)))], .int .i64 (oneC m l)]) := by
  refine AFn.of' ttOk (by decide) Try.func16 Try.ntmps16 (by rw [Try.results16]) (by rfl) (by rfl) (by simp) (by decide) (by simp only [go_sem, Nat.reduceAdd, ↓reduceIte]; rfl) mixed (fun C hP hM hC => ?_)
  have hz := oneC_zero h
  have f := isBig_facts hz
  have hA := c_impl_IsBigVector m l hl
  rw [hz] at hA
  (repeat (first | ((with_reducible refine rgn_cons rfl (fun K hK => ?_)); simp only [go_sem, seval, ↓reduceIte, decide_true, decide_false]; (first | refine hK _ _ _ (by simp only [go_sem, Nat.reduceEqDiff, ↓reduceIte]; rfl) ?_ | refine ⟨_, hA, hK _ _ _ (by simp only [go_sem, Nat.reduceEqDiff, ↓reduceIte]; rfl) ?_⟩ | refine ⟨_, c_impl_Series_inverse m l (l.length - 1) (by omega) (by omega) f.2.2.2.2.1 (by omega) (by omega), hK _ _ _ (by simp only [go_sem, Nat.reduceEqDiff, ↓reduceIte]; rfl) ?_⟩); clear hK; clear K) | (with_reducible first | refine rgn_nil (by first | trivial | kernel_rfl) ?_ | refine AWP.seq ?_ | refine tX hC hP (by kernel_rfl) ?_ | refine aX hC hM hP (by kernel_rfl) ?_ | refine AWP.skip ?_ | refine AWP.label ?_ | refine AWP.exit ?_ | refine AWP.block ?_ | refine cT (by simp only [go_sem, Nat.reduceEqDiff, ↓reduceIte]; with_reducible rfl) ?_ | refine cF (by simp only [go_sem, Nat.reduceEqDiff, ↓reduceIte]; with_reducible rfl) ?_) | simp only [qS, Nat.reduceEqDiff, ↓reduceIte]))
  (refine AWP.ret ?_; first | refine retOk1 (by simp only [go_sem, seval, ↓reduceIte, decide_true, decide_false]; rfl) ?_ | refine retOk2 (by simp only [go_sem, seval, ↓reduceIte, decide_true, decide_false]; rfl) (by simp only [go_sem, seval, ↓reduceIte, decide_true, decide_false]; rfl) (by simp) ?_ | refine retOk3 (by simp only [go_sem, seval, ↓reduceIte, decide_true, decide_false]; rfl) (by simp only [go_sem, seval, ↓reduceIte, decide_true, decide_false]; rfl) (by simp only [go_sem, seval, ↓reduceIte, decide_true, decide_false]; rfl) (by simp) ?_)
  rw [h]
theorem c_impl_NegateBig_no (m : Int) (l : List Int) (hl : l.length ≤ 1099511627776) (h : ¬ oneC m l = 0) : AFn Try.prog 16 [.agg [.int .i64 m, .sl false 2 (intL l)]] (.tup [.agg [.int .i64 0, .nil], .int .i64 (oneC m l)]) := by
  refine AFn.of' ttOk (by decide) Try.func16 Try.ntmps16 (by rw [Try.results16]) (by rfl) (by rfl) (by simp) (by decide) (by simp only [go_sem, Nat.reduceAdd, ↓reduceIte]; rfl) mixed (fun C hP hM hC => ?_)
  have hA := c_impl_IsBigVector m l hl
  have hz : isBig m l = false := by cases hx : isBig m l with
    | false => rfl
    | true => exact absurd (by simp [oneC, hx]) h
  rw [hz] at hA
  (repeat (first | ((with_reducible refine rgn_cons rfl (fun K hK => ?_)); simp only [go_sem, seval, ↓reduceIte, decide_true, decide_false]; (first | refine hK _ _ _ (by simp only [go_sem, Nat.reduceEqDiff, ↓reduceIte]; rfl) ?_ | refine ⟨_, hA, hK _ _ _ (by simp only [go_sem, Nat.reduceEqDiff, ↓reduceIte]; rfl) ?_⟩); clear hK; clear K) | (with_reducible first | refine rgn_nil (by first | trivial | kernel_rfl) ?_ | refine AWP.seq ?_ | refine tX hC hP (by kernel_rfl) ?_ | refine aX hC hM hP (by kernel_rfl) ?_ | refine AWP.skip ?_ | refine AWP.label ?_ | refine AWP.exit ?_ | refine AWP.block ?_ | refine cT (by simp only [go_sem, Nat.reduceEqDiff, ↓reduceIte]; with_reducible rfl) ?_ | refine cF (by simp only [go_sem, Nat.reduceEqDiff, ↓reduceIte]; with_reducible rfl) ?_) | simp only [qS, Nat.reduceEqDiff, ↓reduceIte]))
  (refine AWP.ret ?_; first | refine retOk1 (by simp only [go_sem, seval, ↓reduceIte, decide_true, decide_false]; rfl) ?_ | refine retOk2 (by simp only [go_sem, seval, ↓reduceIte, decide_true, decide_false]; rfl) (by simp only [go_sem, seval, ↓reduceIte, decide_true, decide_false]; rfl) (by simp) ?_ | refine retOk3 (by simp only [go_sem, seval, ↓reduceIte, decide_true, decide_false]; rfl) (by simp only [go_sem, seval, ↓reduceIte, decide_true, decide_false]; rfl) (by simp only [go_sem, seval, ↓reduceIte, decide_true, decide_false]; rfl) (by simp) ?_)
  simp [oneC, hz]
-- VerschiebungOfBig.
theorem c_impl_VerschiebungOfBig_ok (m n : Int) (l : List Int) (hl : l.length ≤ 1099511627776) (h : bigC m l n 1 100 = 0) : AFn Try.prog 27 [.agg [.int .i64 m, .sl false 2 (intL l)], .int .i64 n] (.tup [.agg [.int .i64 m, .sl true 2 (intL (spreadL l n.toNat (l.length - 1)))], .int .i64 (bigC m l n 1 100)]) := by
  refine AFn.of' ttOk (by decide) Try.func27 Try.ntmps27 (by rw [Try.results27]) (by rfl) (by rfl) (by simp) (by decide) (by simp only [go_sem, Nat.reduceAdd, ↓reduceIte]; rfl) mixed (fun C hP hM hC => ?_)
  have hz := bigC_zero h
  have f := isBig_facts hz.1
  have hd : (decide (1 ≤ n) && decide (n ≤ 100)) = true := by simp [hz]
  have hA := c_impl_IsBigVector m l hl
  rw [hz.1] at hA
  have hPw := c_impl_Series_spread m l n.toNat (l.length - 1) (by omega) (by omega) (by omega) (by omega)
  rw [show (n.toNat : Int) = n by omega] at hPw
  (repeat (first | ((with_reducible refine rgn_cons rfl (fun K hK => ?_)); simp only [go_sem, seval, ↓reduceIte, decide_true, decide_false, hd]; (first | refine hK _ _ _ (by simp only [go_sem, Nat.reduceEqDiff, ↓reduceIte]; rfl) ?_ | refine ⟨_, hA, hK _ _ _ (by simp only [go_sem, Nat.reduceEqDiff, ↓reduceIte]; rfl) ?_⟩ | refine ⟨_, c_impl_in _ _ _, hK _ _ _ (by simp only [go_sem, Nat.reduceEqDiff, ↓reduceIte]; rfl) ?_⟩ | refine ⟨_, hPw, hK _ _ _ (by simp only [go_sem, Nat.reduceEqDiff, ↓reduceIte]; rfl) ?_⟩); clear hK; clear K) | (with_reducible first | refine rgn_nil (by first | trivial | kernel_rfl) ?_ | refine AWP.seq ?_ | refine tX hC hP (by kernel_rfl) ?_ | refine aX hC hM hP (by kernel_rfl) ?_ | refine AWP.skip ?_ | refine AWP.label ?_ | refine AWP.exit ?_ | refine AWP.block ?_ | refine cT (by simp only [go_sem, Nat.reduceEqDiff, ↓reduceIte]; with_reducible rfl) ?_ | refine cF (by simp only [go_sem, Nat.reduceEqDiff, ↓reduceIte]; with_reducible rfl) ?_) | simp only [qS, Nat.reduceEqDiff, ↓reduceIte]))
  (refine AWP.ret ?_; first | refine retOk1 (by simp only [go_sem, seval, ↓reduceIte, decide_true, decide_false]; rfl) ?_ | refine retOk2 (by simp only [go_sem, seval, ↓reduceIte, decide_true, decide_false]; rfl) (by simp only [go_sem, seval, ↓reduceIte, decide_true, decide_false]; rfl) (by simp) ?_ | refine retOk3 (by simp only [go_sem, seval, ↓reduceIte, decide_true, decide_false]; rfl) (by simp only [go_sem, seval, ↓reduceIte, decide_true, decide_false]; rfl) (by simp only [go_sem, seval, ↓reduceIte, decide_true, decide_false]; rfl) (by simp) ?_)
  rw [h]
theorem c_impl_VerschiebungOfBig_no (m n : Int) (l : List Int) (hl : l.length ≤ 1099511627776) (h : ¬ bigC m l n 1 100 = 0) : AFn Try.prog 27 [.agg [.int .i64 m, .sl false 2 (intL l)], .int .i64 n] (.tup [.agg [.int .i64 0, .nil], .int .i64 (bigC m l n 1 100)]) := by
  refine AFn.of' ttOk (by decide) Try.func27 Try.ntmps27 (by rw [Try.results27]) (by rfl) (by rfl) (by simp) (by decide) (by simp only [go_sem, Nat.reduceAdd, ↓reduceIte]; rfl) mixed (fun C hP hM hC => ?_)
  have hA := c_impl_IsBigVector m l hl
  cases c1 : isBig m l with
  | false =>
    rw [c1] at hA
    (repeat (first | ((with_reducible refine rgn_cons rfl (fun K hK => ?_)); simp only [go_sem, seval, ↓reduceIte, decide_true, decide_false]; (first | refine hK _ _ _ (by simp only [go_sem, Nat.reduceEqDiff, ↓reduceIte]; rfl) ?_ | refine ⟨_, hA, hK _ _ _ (by simp only [go_sem, Nat.reduceEqDiff, ↓reduceIte]; rfl) ?_⟩); clear hK; clear K) | (with_reducible first | refine rgn_nil (by first | trivial | kernel_rfl) ?_ | refine AWP.seq ?_ | refine tX hC hP (by kernel_rfl) ?_ | refine aX hC hM hP (by kernel_rfl) ?_ | refine AWP.skip ?_ | refine AWP.label ?_ | refine AWP.exit ?_ | refine AWP.block ?_ | refine cT (by simp only [go_sem, Nat.reduceEqDiff, ↓reduceIte]; with_reducible rfl) ?_ | refine cF (by simp only [go_sem, Nat.reduceEqDiff, ↓reduceIte]; with_reducible rfl) ?_) | simp only [qS, Nat.reduceEqDiff, ↓reduceIte]))
    (refine AWP.ret ?_; first | refine retOk1 (by simp only [go_sem, seval, ↓reduceIte, decide_true, decide_false]; rfl) ?_ | refine retOk2 (by simp only [go_sem, seval, ↓reduceIte, decide_true, decide_false]; rfl) (by simp only [go_sem, seval, ↓reduceIte, decide_true, decide_false]; rfl) (by simp) ?_ | refine retOk3 (by simp only [go_sem, seval, ↓reduceIte, decide_true, decide_false]; rfl) (by simp only [go_sem, seval, ↓reduceIte, decide_true, decide_false]; rfl) (by simp only [go_sem, seval, ↓reduceIte, decide_true, decide_false]; rfl) (by simp) ?_)
    simp [bigC, c1]
  | true =>
    rw [c1] at hA
    have hd : (decide (1 ≤ n) && decide (n ≤ 100)) = false := by
      cases hx : (decide (1 ≤ n) && decide (n ≤ 100)) with
      | false => rfl
      | true => exact absurd (by simp [bigC, c1, hx]) h
    (repeat (first | ((with_reducible refine rgn_cons rfl (fun K hK => ?_)); simp only [go_sem, seval, ↓reduceIte, decide_true, decide_false, hd]; (first | refine hK _ _ _ (by simp only [go_sem, Nat.reduceEqDiff, ↓reduceIte]; rfl) ?_ | refine ⟨_, hA, hK _ _ _ (by simp only [go_sem, Nat.reduceEqDiff, ↓reduceIte]; rfl) ?_⟩ | refine ⟨_, c_impl_in _ _ _, hK _ _ _ (by simp only [go_sem, Nat.reduceEqDiff, ↓reduceIte]; rfl) ?_⟩); clear hK; clear K) | (with_reducible first | refine rgn_nil (by first | trivial | kernel_rfl) ?_ | refine AWP.seq ?_ | refine tX hC hP (by kernel_rfl) ?_ | refine aX hC hM hP (by kernel_rfl) ?_ | refine AWP.skip ?_ | refine AWP.label ?_ | refine AWP.exit ?_ | refine AWP.block ?_ | refine cT (by simp only [go_sem, Nat.reduceEqDiff, ↓reduceIte]; with_reducible rfl) ?_ | refine cF (by simp only [go_sem, Nat.reduceEqDiff, ↓reduceIte]; with_reducible rfl) ?_) | simp only [qS, Nat.reduceEqDiff, ↓reduceIte]))
    (refine AWP.ret ?_; first | refine retOk1 (by simp only [go_sem, seval, ↓reduceIte, decide_true, decide_false]; rfl) ?_ | refine retOk2 (by simp only [go_sem, seval, ↓reduceIte, decide_true, decide_false]; rfl) (by simp only [go_sem, seval, ↓reduceIte, decide_true, decide_false]; rfl) (by simp) ?_ | refine retOk3 (by simp only [go_sem, seval, ↓reduceIte, decide_true, decide_false]; rfl) (by simp only [go_sem, seval, ↓reduceIte, decide_true, decide_false]; rfl) (by simp only [go_sem, seval, ↓reduceIte, decide_true, decide_false]; rfl) (by simp) ?_)
    simp [bigC, c1, hd]
-- GhostsOfBig.
theorem c_impl_GhostsOfBig_ok (m : Int) (l : List Int) (hl : l.length ≤ 1099511627776) (h : oneC m l = 0) : AFn Try.prog 18 [.agg [.int .i64 m, .sl false 2 (intL l)]] (.tup [.sl true 2 (intL (ghL m (cL m l (l.length - 1)) (l.length - 1))), .int .i64 (oneC m l)]) := by
  refine AFn.of' ttOk (by decide) Try.func18 Try.ntmps18 (by rw [Try.results18]) (by rfl) (by rfl) (by simp) (by decide) (by simp only [go_sem, Nat.reduceAdd, ↓reduceIte]; rfl) mixed (fun C hP hM hC => ?_)
  have hz := oneC_zero h
  have f := isBig_facts hz
  have hA := c_impl_IsBigVector m l hl
  rw [hz] at hA
  obtain ⟨d, hd⟩ : ∃ d, l.length = d + 1 := ⟨l.length - 1, by omega⟩
  have hCo := c_impl_Series_coordinates m l d (by omega) (by omega) f.2.2.2.2.1 hd (by omega)
  have hcn := cL_num (d := d) (show 1 < m by omega) hd f.2.2.2.2.1
  have hcl := cL_length m l d
  have hdg := c_impl_Series_degree m l (by omega)
  rw [hd, show ((d + 1 : Nat) : Int) - 1 = (d : Int) by omega] at hdg
  rw [show l.length - 1 = d by omega]
  generalize cL m l d = x at hCo hcn hcl
  (repeat (first | ((with_reducible refine rgn_cons rfl (fun K hK => ?_)); simp only [go_sem, seval, ↓reduceIte, decide_true, decide_false]; (first | refine hK _ _ _ (by simp only [go_sem, Nat.reduceEqDiff, ↓reduceIte]; rfl) ?_ | refine ⟨_, hA, hK _ _ _ (by simp only [go_sem, Nat.reduceEqDiff, ↓reduceIte]; rfl) ?_⟩ | refine ⟨_, hCo, hK _ _ _ (by simp only [go_sem, Nat.reduceEqDiff, ↓reduceIte]; rfl) ?_⟩); clear hK; clear K) | (with_reducible first | refine rgn_nil (by first | trivial | kernel_rfl) ?_ | refine AWP.seq ?_ | refine tX hC hP (by kernel_rfl) ?_ | refine aX hC hM hP (by kernel_rfl) ?_ | refine AWP.skip ?_ | refine AWP.label ?_ | refine AWP.exit ?_ | refine AWP.block ?_ | refine cT (by simp only [go_sem, Nat.reduceEqDiff, ↓reduceIte]; with_reducible rfl) ?_ | refine cF (by simp only [go_sem, Nat.reduceEqDiff, ↓reduceIte]; with_reducible rfl) ?_) | simp only [qS, Nat.reduceEqDiff, ↓reduceIte]))
  refine AWP.loop (fun w : Nat × Nat => [(6, ⟨0, .val (.int .i64 (w.1 + 1 : Nat))⟩), (5, ⟨w.2, .own (.sl true 2 (intL (tab w.1 (fun i => sm (i + 1) (ghF x (i + 1)) % m))))⟩), (4, ⟨1, .own (.sl true 2 (intL x))⟩), (1, ⟨1, .own (.box 26 (.agg [.int .i64 m, .sl false 2 (intL l)]))⟩), (3, ⟨0, .val (.int .i64 0)⟩)]) (fun w => w.1 ≤ d) (fun w => d - w.1) (0, 1) (Nat.zero_le _) (fun i => rfl) ?_ (fun w hw => ?_)
  · simp [Sub, lk, tab_nil, intL]
  · obtain ⟨n, v5⟩ := w
    simp only at hw ⊢
    by_cases hn : n < d
    · (repeat (first | ((with_reducible refine rgn_cons rfl (fun K hK => ?_)); simp only [go_sem, seval, ↓reduceIte, decide_true, decide_false, hcl, show ((n + 1 : Nat) : Int) ≤ (d : Int) by omega, wid (d : Int) (by omega) (by omega)]; (first | refine hK _ _ _ (by simp only [go_sem, Nat.reduceEqDiff, ↓reduceIte]; rfl) ?_ | refine ⟨_, hdg, hK _ _ _ (by simp only [go_sem, Nat.reduceEqDiff, ↓reduceIte]; rfl) ?_⟩); clear hK; clear K) | (with_reducible first | refine rgn_nil (by first | trivial | kernel_rfl) ?_ | refine AWP.seq ?_ | refine tX hC hP (by kernel_rfl) ?_ | refine aX hC hM hP (by kernel_rfl) ?_ | refine AWP.skip ?_ | refine AWP.label ?_ | refine AWP.exit ?_ | refine AWP.block ?_ | refine cT (by simp only [go_sem, Nat.reduceEqDiff, ↓reduceIte]; with_reducible rfl) ?_ | refine cF (by simp only [go_sem, Nat.reduceEqDiff, ↓reduceIte]; with_reducible rfl) ?_) | simp only [qS, Nat.reduceEqDiff, ↓reduceIte]))
      refine AWP.loop (fun c : Nat => [(8, ⟨0, .val (.int .i64 (c + 1 : Nat))⟩), (7, ⟨0, .val (.int .i64 (sm c (ghF x (n + 1)) % m))⟩), (6, ⟨0, .val (.int .i64 (n + 1 : Nat))⟩), (5, ⟨v5, .own (.sl true 2 (intL (tab n (fun i => sm (i + 1) (ghF x (i + 1)) % m))))⟩), (4, ⟨1, .own (.sl true 2 (intL x))⟩), (1, ⟨1, .own (.box 26 (.agg [.int .i64 m, .sl false 2 (intL l)]))⟩), (3, ⟨0, .val (.int .i64 0)⟩)]) (fun c => c ≤ n + 1) (fun c => n + 1 - c) 0 (by omega) (fun i => rfl) ?_ (fun c hc => ?_)
      · simp [Sub, lk, sm]
      · have hs := emod_b (sm c (ghF x (n + 1))) m (by omega)
        by_cases hc2 : c < n + 1
        · have hx := at_bound hcn (by omega) c
          by_cases hdv : (n + 1) % (c + 1) = 0
          · have hp := emod_b (at' x c ^ ((n + 1) / (c + 1))) m (by omega)
            have hq : (n + 1) / (c + 1) ≤ n + 1 := Nat.div_le_self _ _
            have hkm := emod_b ((c + 1 : Nat) : Int) m (by omega)
            have hk := mul_bound4 hkm.1 hkm.2 hp.1 hp.2 (by omega)
            have hlt : c < x.length := by omega
            have e := gh_step2 (sm c (ghF x (n + 1))) ((c + 1 : Nat) : Int) (at' x c ^ ((n + 1) / (c + 1))) m
            rw [← gh_succ hdv] at e
            (repeat (first | ((with_reducible refine rgn_cons rfl (fun K hK => ?_)); simp only [go_sem, seval, ↓reduceIte, decide_true, decide_false, show ((c + 1 : Nat) : Int) ≤ ((n + 1 : Nat) : Int) by omega, nat_tmod, nat_tdiv, hdv, show ((c + 1 : Nat) : Int) ≠ 0 by omega, wid (((c + 1 : Nat) : Int) - 1) (by omega) (by omega), show (0 : Int) ≤ ((c + 1 : Nat) : Int) - 1 by omega, hcl, show ((c + 1 : Nat) : Int) - 1 < (d : Int) by omega, show (((c + 1 : Nat) : Int) - 1).toNat = c by omega, Nat.mul_one, intL_get x c hlt, sizeL_take x c (by omega), show x.getD c 0 = at' x c from rfl, widN ((n + 1) / (c + 1)) (by omega), Int.natCast_zero, tm ((c + 1 : Nat) : Int) m (by omega), wid (((c + 1 : Nat) : Int) % m * (at' x c ^ ((n + 1) / (c + 1)) % m)) (by omega) (by omega), wid (sm c (ghF x (n + 1)) % m + ((c + 1 : Nat) : Int) % m * (at' x c ^ ((n + 1) / (c + 1)) % m)) (by omega) (by omega), tm (sm c (ghF x (n + 1)) % m + ((c + 1 : Nat) : Int) % m * (at' x c ^ ((n + 1) / (c + 1)) % m)) m (by omega), e, show m ≠ 0 by omega, wid (((c + 1 : Nat) : Int) + 1) (by omega) (by omega)]; (first | refine hK _ _ _ (by simp only [go_sem, Nat.reduceEqDiff, ↓reduceIte]; rfl) ?_ | refine ⟨_, c_impl_power m (at' x c) ((n + 1) / (c + 1)) (by omega) (by omega) hx.1 hx.2 (by omega), hK _ _ _ (by simp only [go_sem, Nat.reduceEqDiff, ↓reduceIte]; rfl) ?_⟩); clear hK; clear K) | (with_reducible first | refine rgn_nil (by first | trivial | kernel_rfl) ?_ | refine AWP.seq ?_ | refine tX hC hP (by kernel_rfl) ?_ | refine aX hC hM hP (by kernel_rfl) ?_ | refine AWP.skip ?_ | refine AWP.label ?_ | refine AWP.exit ?_ | refine AWP.block ?_ | refine cT (by simp only [go_sem, Nat.reduceEqDiff, ↓reduceIte]; with_reducible rfl) ?_ | refine cF (by simp only [go_sem, Nat.reduceEqDiff, ↓reduceIte]; with_reducible rfl) ?_) | simp only [qS, Nat.reduceEqDiff, ↓reduceIte]))
            exact ⟨c + 1, by omega, by omega, by simp [Sub, lk]⟩
          · have hdv2 : ((((n + 1) % (c + 1) : Nat) : Int) == 0) = false := by rw [beq_eq_false_iff_ne]; omega
            (repeat (first | ((with_reducible refine rgn_cons rfl (fun K hK => ?_)); simp only [go_sem, seval, ↓reduceIte, decide_true, decide_false, show ((c + 1 : Nat) : Int) ≤ ((n + 1 : Nat) : Int) by omega, nat_tmod, hdv2, show ((c + 1 : Nat) : Int) ≠ 0 by omega, wid (((c + 1 : Nat) : Int) + 1) (by omega) (by omega)]; (refine hK _ _ _ (by simp only [go_sem, Nat.reduceEqDiff, ↓reduceIte]; rfl) ?_); clear hK; clear K) | (with_reducible first | refine rgn_nil (by first | trivial | kernel_rfl) ?_ | refine AWP.seq ?_ | refine tX hC hP (by kernel_rfl) ?_ | refine aX hC hM hP (by kernel_rfl) ?_ | refine AWP.skip ?_ | refine AWP.label ?_ | refine AWP.exit ?_ | refine AWP.block ?_ | refine cT (by simp only [go_sem, Nat.reduceEqDiff, ↓reduceIte]; with_reducible rfl) ?_ | refine cF (by simp only [go_sem, Nat.reduceEqDiff, ↓reduceIte]; with_reducible rfl) ?_) | simp only [qS, Nat.reduceEqDiff, ↓reduceIte]))
            exact ⟨c + 1, by omega, by omega, by simp [Sub, lk, gh_skip hdv]⟩
        · have hce : c = n + 1 := by omega
          subst hce
          have hsn : tab n (fun i => sm (i + 1) (ghF x (i + 1)) % m) ++ [sm (n + 1) (ghF x (n + 1)) % m] = tab (n + 1) (fun i => sm (i + 1) (ghF x (i + 1)) % m) := tab_succ _ _
          (repeat (first | ((with_reducible refine rgn_cons rfl (fun K hK => ?_)); simp only [go_sem, seval, ↓reduceIte, decide_true, decide_false, show ¬ ((n + 1 + 1 : Nat) : Int) ≤ ((n + 1 : Nat) : Int) by omega, decide_false, tab_length, intL_snoc, hsn, show n + 1 ≤ 1099511627776 by omega, show (n + 1) * 8 ≤ 140737488355328 by omega, wid (((n + 1 : Nat) : Int) + 1) (by omega) (by omega)]; (refine hK _ _ _ (by simp only [go_sem, Nat.reduceEqDiff, ↓reduceIte]; rfl) ?_); clear hK; clear K) | (with_reducible first | refine rgn_nil (by first | trivial | kernel_rfl) ?_ | refine AWP.seq ?_ | refine tX hC hP (by kernel_rfl) ?_ | refine aX hC hM hP (by kernel_rfl) ?_ | refine AWP.skip ?_ | refine AWP.label ?_ | refine AWP.exit ?_ | refine AWP.block ?_ | refine cT (by simp only [go_sem, Nat.reduceEqDiff, ↓reduceIte]; with_reducible rfl) ?_ | refine cF (by simp only [go_sem, Nat.reduceEqDiff, ↓reduceIte]; with_reducible rfl) ?_) | simp only [qS, Nat.reduceEqDiff, ↓reduceIte]))
          exact ⟨(n + 1, v5 + 1), by simp only; omega, by simp only; omega, by simp [Sub, lk]⟩
    · (repeat (first | ((with_reducible refine rgn_cons rfl (fun K hK => ?_)); simp only [go_sem, seval, ↓reduceIte, decide_true, decide_false, hcl, show ¬ ((n + 1 : Nat) : Int) ≤ (d : Int) by omega, decide_false, wid (d : Int) (by omega) (by omega)]; (first | refine hK _ _ _ (by simp only [go_sem, Nat.reduceEqDiff, ↓reduceIte]; rfl) ?_ | refine ⟨_, hdg, hK _ _ _ (by simp only [go_sem, Nat.reduceEqDiff, ↓reduceIte]; rfl) ?_⟩); clear hK; clear K) | (with_reducible first | refine rgn_nil (by first | trivial | kernel_rfl) ?_ | refine AWP.seq ?_ | refine tX hC hP (by kernel_rfl) ?_ | refine aX hC hM hP (by kernel_rfl) ?_ | refine AWP.skip ?_ | refine AWP.label ?_ | refine AWP.exit ?_ | refine AWP.block ?_ | refine cT (by simp only [go_sem, Nat.reduceEqDiff, ↓reduceIte]; with_reducible rfl) ?_ | refine cF (by simp only [go_sem, Nat.reduceEqDiff, ↓reduceIte]; with_reducible rfl) ?_) | simp only [qS, Nat.reduceEqDiff, ↓reduceIte]))
      (refine AWP.ret ?_; first | refine retOk1 (by simp only [go_sem, seval, ↓reduceIte, decide_true, decide_false]; rfl) ?_ | refine retOk2 (by simp only [go_sem, seval, ↓reduceIte, decide_true, decide_false]; rfl) (by simp only [go_sem, seval, ↓reduceIte, decide_true, decide_false]; rfl) (by simp) ?_ | refine retOk3 (by simp only [go_sem, seval, ↓reduceIte, decide_true, decide_false]; rfl) (by simp only [go_sem, seval, ↓reduceIte, decide_true, decide_false]; rfl) (by simp only [go_sem, seval, ↓reduceIte, decide_true, decide_false]; rfl) (by simp) ?_)
      rw [show n = d by omega, h]; rfl
theorem c_impl_GhostsOfBig_no (m : Int) (l : List Int) (hl : l.length ≤ 1099511627776) (h : ¬ oneC m l = 0) : AFn Try.prog 18 [.agg [.int .i64 m, .sl false 2 (intL l)]] (.tup [.nil, .int .i64 (oneC m l)]) := by
  refine AFn.of' ttOk (by decide) Try.func18 Try.ntmps18 (by rw [Try.results18]) (by rfl) (by rfl) (by simp) (by decide) (by simp only [go_sem, Nat.reduceAdd, ↓reduceIte]; rfl) mixed (fun C hP hM hC => ?_)
  have hA := c_impl_IsBigVector m l hl
  have hz : isBig m l = false := by cases hx : isBig m l with
    | false => rfl
    | true => exact absurd (by simp [oneC, hx]) h
  rw [hz] at hA
  (repeat (first | ((with_reducible refine rgn_cons rfl (fun K hK => ?_)); simp only [go_sem, seval, ↓reduceIte, decide_true, decide_false]; (first | refine hK _ _ _ (by simp only [go_sem, Nat.reduceEqDiff, ↓reduceIte]; rfl) ?_ | refine ⟨_, hA, hK _ _ _ (by simp only [go_sem, Nat.reduceEqDiff, ↓reduceIte]; rfl) ?_⟩); clear hK; clear K) | (with_reducible first | refine rgn_nil (by first | trivial | kernel_rfl) ?_ | refine AWP.seq ?_ | refine tX hC hP (by kernel_rfl) ?_ | refine aX hC hM hP (by kernel_rfl) ?_ | refine AWP.skip ?_ | refine AWP.label ?_ | refine AWP.exit ?_ | refine AWP.block ?_ | refine cT (by simp only [go_sem, Nat.reduceEqDiff, ↓reduceIte]; with_reducible rfl) ?_ | refine cF (by simp only [go_sem, Nat.reduceEqDiff, ↓reduceIte]; with_reducible rfl) ?_) | simp only [qS, Nat.reduceEqDiff, ↓reduceIte]))
  (refine AWP.ret ?_; first | refine retOk1 (by simp only [go_sem, seval, ↓reduceIte, decide_true, decide_false]; rfl) ?_ | refine retOk2 (by simp only [go_sem, seval, ↓reduceIte, decide_true, decide_false]; rfl) (by simp only [go_sem, seval, ↓reduceIte, decide_true, decide_false]; rfl) (by simp) ?_ | refine retOk3 (by simp only [go_sem, seval, ↓reduceIte, decide_true, decide_false]; rfl) (by simp only [go_sem, seval, ↓reduceIte, decide_true, decide_false]; rfl) (by simp only [go_sem, seval, ↓reduceIte, decide_true, decide_false]; rfl) (by simp) ?_)
  simp [oneC, hz]
end Go.Proofs.Ytccjfbfebgfgoaa
