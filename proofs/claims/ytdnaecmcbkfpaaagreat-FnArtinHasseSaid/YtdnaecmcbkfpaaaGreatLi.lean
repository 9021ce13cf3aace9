/-
  Two big vectors; sums.
-/
import Derived.Test.YtdnaecmcbkfpaaaGreatLd
import Derived.Test.YtdnaecmcbkfpaaaGreatLcc
namespace Go.Proofs.YtdnaecmcbkfpaaaGreat
open Go.RowKit
set_option linter.unusedSimpArgs false
set_option linter.unusedVariables false
set_option linter.unusedSectionVars false
set_option maxRecDepth 20000
-- Two big vectors; sums.
theorem isBig_facts {m : Int} {l : List Int} (h : isBig m l = true) : 2 ≤ l.length ∧ l.length ≤ 11 ∧ 2 ≤ m ∧ m ≤ 10000 ∧ (∀ x ∈ l, 0 ≤ x ∧ x < m) ∧ at' l 0 = 1 := by
  simp only [isBig, Bool.and_eq_true, beq_iff_eq] at h
  obtain ⟨h1, h2, h3, h4, h5⟩ := isSer_len h.1
  exact ⟨h1, h2, h3, h4, fun x hx => by have := h5 x hx; omega, h.2⟩
def alikeB (m1 : Int) (l1 : List Int) (m2 : Int) (l2 : List Int) : Bool := (m1 == m2) && (l1.length == l2.length)
set_option maxHeartbeats 1000000 in
theorem c_impl_Series_alike (m1 m2 : Int) (l1 l2 : List Int) (h1 : l1.length ≤ 1099511627776) (h2 : l2.length ≤ 1099511627776) : AFn Tryz.prog 91 [.agg [.int .i64 m1, .sl false 2 (intL l1)], .agg [.int .i64 m2, .sl false 2 (intL l2)]] (.bool (alikeB m1 l1 m2 l2)) := by
  refine AFn.of' ttOk (by decide) Tryz.func91 Tryz.ntmps91 (by rw [Tryz.results91]) (by rfl) (by rfl) (by simp) (by decide) (by simp only [go_sem, Nat.reduceAdd, ↓reduceIte]; rfl) mixed (fun C hP hM hC => ?_)
  cases hm : (m1 == m2) with
  | false =>
    (repeat (first | ((with_reducible refine rgn_cons rfl (fun K hK => ?_)); simp only [go_sem, seval, ↓reduceIte, decide_true, decide_false, hm]; (refine hK _ _ _ (by simp only [go_sem, Nat.reduceEqDiff, ↓reduceIte]; rfl) ?_); clear hK; clear K) | (with_reducible first | refine rgn_nil (by first | trivial | kernel_rfl) ?_ | refine AWP.seq ?_ | refine tX hC hP (by kernel_rfl) ?_ | refine aX hC hM hP (by kernel_rfl) ?_ | refine AWP.skip ?_ | refine AWP.label ?_ | refine AWP.exit ?_ | refine AWP.block ?_ | refine cTa ?_ | refine cFa ?_) | simp only [qS, Nat.reduceEqDiff, ↓reduceIte]))
    (refine AWP.ret ?_; refine retOk1 (by simp only [go_sem, seval, ↓reduceIte, decide_true, decide_false]; rfl) ?_)
    simp [alikeB, hm]
  | true =>
    have e : (((l1.length : Int) - 1) == ((l2.length : Int) - 1)) = (l1.length == l2.length) := by
      rw [Bool.eq_iff_iff]; simp; omega
    (repeat (first | ((with_reducible refine rgn_cons rfl (fun K hK => ?_)); simp only [go_sem, seval, ↓reduceIte, decide_true, decide_false, hm, e]; (first | refine hK _ _ _ (by simp only [go_sem, Nat.reduceEqDiff, ↓reduceIte]; rfl) ?_ | refine ⟨_, c_impl_Series_degree m1 l1 h1, hK _ _ _ (by simp only [go_sem, Nat.reduceEqDiff, ↓reduceIte]; rfl) ?_⟩ | refine ⟨_, c_impl_Series_degree m2 l2 h2, hK _ _ _ (by simp only [go_sem, Nat.reduceEqDiff, ↓reduceIte]; rfl) ?_⟩); clear hK; clear K) | (with_reducible first | refine rgn_nil (by first | trivial | kernel_rfl) ?_ | refine AWP.seq ?_ | refine tX hC hP (by kernel_rfl) ?_ | refine aX hC hM hP (by kernel_rfl) ?_ | refine AWP.skip ?_ | refine AWP.label ?_ | refine AWP.exit ?_ | refine AWP.block ?_ | refine cTa ?_ | refine cFa ?_) | simp only [qS, Nat.reduceEqDiff, ↓reduceIte]))
    (refine AWP.ret ?_; refine retOk1 (by simp only [go_sem, seval, ↓reduceIte, decide_true, decide_false]; rfl) ?_)
    simp [alikeB, hm]
def twoB (m1 : Int) (l1 : List Int) (m2 : Int) (l2 : List Int) : Int := if (isBig m1 l1 && isBig m2 l2) = true then (if alikeB m1 l1 m2 l2 = true then 0 else 2) else 1
theorem twoB_zero {m1 m2 : Int} {l1 l2 : List Int} (h : twoB m1 l1 m2 l2 = 0) : isBig m1 l1 = true ∧ isBig m2 l2 = true ∧ m2 = m1 ∧ l2.length = l1.length := by
  unfold twoB at h
  split at h
  · rename_i h1
    split at h
    · rename_i h2
      simp only [Bool.and_eq_true] at h1
      simp only [alikeB, Bool.and_eq_true, beq_iff_eq] at h2
      exact ⟨h1.1, h1.2, h2.1.symm, h2.2.symm⟩
    · cases h
  · cases h
set_option maxHeartbeats 1000000 in
theorem c_impl_bothBig (m1 m2 : Int) (l1 l2 : List Int) (h1 : l1.length ≤ 1099511627776) (h2 : l2.length ≤ 1099511627776) : AFn Tryz.prog 68 [.agg [.int .i64 m1, .sl false 2 (intL l1)], .agg [.int .i64 m2, .sl false 2 (intL l2)]] (.int .i64 (twoB m1 l1 m2 l2)) := by
  refine AFn.of' ttOk (by decide) Tryz.func68 Tryz.ntmps68 (by rw [Tryz.results68]) (by rfl) (by rfl) (by simp) (by decide) (by simp only [go_sem, Nat.reduceAdd, ↓reduceIte]; rfl) mixed (fun C hP hM hC => ?_)
  have hA := c_impl_IsBigVector m1 l1 h1
  have hB := c_impl_IsBigVector m2 l2 h2
  have hC2 := c_impl_Series_alike m1 m2 l1 l2 h1 h2
  cases c1 : isBig m1 l1 with
  | false =>
    rw [c1] at hA
    (repeat (first | ((with_reducible refine rgn_cons rfl (fun K hK => ?_)); simp only [go_sem, seval, ↓reduceIte, decide_true, decide_false]; (first | refine hK _ _ _ (by simp only [go_sem, Nat.reduceEqDiff, ↓reduceIte]; rfl) ?_ | refine ⟨_, hA, hK _ _ _ (by simp only [go_sem, Nat.reduceEqDiff, ↓reduceIte]; rfl) ?_⟩ | refine ⟨_, hB, hK _ _ _ (by simp only [go_sem, Nat.reduceEqDiff, ↓reduceIte]; rfl) ?_⟩); clear hK; clear K) | (with_reducible first | refine rgn_nil (by first | trivial | kernel_rfl) ?_ | refine AWP.seq ?_ | refine tX hC hP (by kernel_rfl) ?_ | refine aX hC hM hP (by kernel_rfl) ?_ | refine AWP.skip ?_ | refine AWP.label ?_ | refine AWP.exit ?_ | refine AWP.block ?_ | refine cTa ?_ | refine cFa ?_) | simp only [qS, Nat.reduceEqDiff, ↓reduceIte]))
    (refine AWP.ret ?_; refine retOk1 (by simp only [go_sem, seval, ↓reduceIte, decide_true, decide_false]; rfl) ?_)
    simp [twoB, c1]
  | true =>
    rw [c1] at hA
    cases c2 : isBig m2 l2 with
    | false =>
      rw [c2] at hB
      (repeat (first | ((with_reducible refine rgn_cons rfl (fun K hK => ?_)); simp only [go_sem, seval, ↓reduceIte, decide_true, decide_false]; (first | refine hK _ _ _ (by simp only [go_sem, Nat.reduceEqDiff, ↓reduceIte]; rfl) ?_ | refine ⟨_, hA, hK _ _ _ (by simp only [go_sem, Nat.reduceEqDiff, ↓reduceIte]; rfl) ?_⟩ | refine ⟨_, hB, hK _ _ _ (by simp only [go_sem, Nat.reduceEqDiff, ↓reduceIte]; rfl) ?_⟩); clear hK; clear K) | (with_reducible first | refine rgn_nil (by first | trivial | kernel_rfl) ?_ | refine AWP.seq ?_ | refine tX hC hP (by kernel_rfl) ?_ | refine aX hC hM hP (by kernel_rfl) ?_ | refine AWP.skip ?_ | refine AWP.label ?_ | refine AWP.exit ?_ | refine AWP.block ?_ | refine cTa ?_ | refine cFa ?_) | simp only [qS, Nat.reduceEqDiff, ↓reduceIte]))
      (refine AWP.ret ?_; refine retOk1 (by simp only [go_sem, seval, ↓reduceIte, decide_true, decide_false]; rfl) ?_)
      simp [twoB, c2]
    | true =>
      rw [c2] at hB
      cases c3 : alikeB m1 l1 m2 l2 with
      | true =>
        rw [c3] at hC2
        (repeat (first | ((with_reducible refine rgn_cons rfl (fun K hK => ?_)); simp only [go_sem, seval, ↓reduceIte, decide_true, decide_false]; (first | refine hK _ _ _ (by simp only [go_sem, Nat.reduceEqDiff, ↓reduceIte]; rfl) ?_ | refine ⟨_, hA, hK _ _ _ (by simp only [go_sem, Nat.reduceEqDiff, ↓reduceIte]; rfl) ?_⟩ | refine ⟨_, hB, hK _ _ _ (by simp only [go_sem, Nat.reduceEqDiff, ↓reduceIte]; rfl) ?_⟩ | refine ⟨_, hC2, hK _ _ _ (by simp only [go_sem, Nat.reduceEqDiff, ↓reduceIte]; rfl) ?_⟩); clear hK; clear K) | (with_reducible first | refine rgn_nil (by first | trivial | kernel_rfl) ?_ | refine AWP.seq ?_ | refine tX hC hP (by kernel_rfl) ?_ | refine aX hC hM hP (by kernel_rfl) ?_ | refine AWP.skip ?_ | refine AWP.label ?_ | refine AWP.exit ?_ | refine AWP.block ?_ | refine cTa ?_ | refine cFa ?_) | simp only [qS, Nat.reduceEqDiff, ↓reduceIte]))
        (refine AWP.ret ?_; refine retOk1 (by simp only [go_sem, seval, ↓reduceIte, decide_true, decide_false]; rfl) ?_)
        simp [twoB, c1, c2, c3]
      | false =>
        rw [c3] at hC2
        (repeat (first | ((with_reducible refine rgn_cons rfl (fun K hK => ?_)); simp only [go_sem, seval, ↓reduceIte, decide_true, decide_false]; (first | refine hK _ _ _ (by simp only [go_sem, Nat.reduceEqDiff, ↓reduceIte]; rfl) ?_ | refine ⟨_, hA, hK _ _ _ (by simp only [go_sem, Nat.reduceEqDiff, ↓reduceIte]; rfl) ?_⟩ | refine ⟨_, hB, hK _ _ _ (by simp only [go_sem, Nat.reduceEqDiff, ↓reduceIte]; rfl) ?_⟩ | refine ⟨_, hC2, hK _ _ _ (by simp only [go_sem, Nat.reduceEqDiff, ↓reduceIte]; rfl) ?_⟩); clear hK; clear K) | (with_reducible first | refine rgn_nil (by first | trivial | kernel_rfl) ?_ | refine AWP.seq ?_ | refine tX hC hP (by kernel_rfl) ?_ | refine aX hC hM hP (by kernel_rfl) ?_ | refine AWP.skip ?_ | refine AWP.label ?_ | refine AWP.exit ?_ | refine AWP.block ?_ | refine cTa ?_ | refine cFa ?_) | simp only [qS, Nat.reduceEqDiff, ↓reduceIte]))
        (refine AWP.ret ?_; refine retOk1 (by simp only [go_sem, seval, ↓reduceIte, decide_true, decide_false]; rfl) ?_)
        simp [twoB, c1, c2, c3]
set_option maxHeartbeats 1000000 in
theorem c_impl_AddBig_ok (m1 m2 : Int) (l1 l2 : List Int) (h1 : l1.length ≤ 1099511627776) (h2 : l2.length ≤ 1099511627776) (h : twoB m1 l1 m2 l2 = 0) : AFn Tryz.prog 29 [.agg [.int .i64 m1, .sl false 2 (intL l1)], .agg [.int .i64 m2, .sl false 2 (intL l2)]] (.tup [.agg [.int .i64 m1, .sl true 2 (intL (timesL m1 l1 l2 (l1.length - 1)))], .int .i64 (twoB m1 l1 m2 l2)]) := by
  refine AFn.of' ttOk (by decide) Tryz.func29 Tryz.ntmps29 (by rw [Tryz.results29]) (by rfl) (by rfl) (by simp) (by decide) (by simp only [go_sem, Nat.reduceAdd, ↓reduceIte]; rfl) mixed (fun C hP hM hC => ?_)
  have hz := twoB_zero h
  have f1 := isBig_facts hz.1
  have f2 := isBig_facts hz.2.1
  have hT := c_impl_Series_times m1 l1 l2 (l1.length - 1) (by omega) (by omega) f1.2.2.2.2.1 (by rw [← hz.2.2.1]; exact f2.2.2.2.2.1) (by omega) (by omega) (by omega)
  have hTw := c_impl_bothBig m1 m2 l1 l2 h1 h2
  rw [h] at hTw ⊢
  obtain ⟨_, _, rfl, _⟩ := hz
  (repeat (first | ((with_reducible refine rgn_cons rfl (fun K hK => ?_)); simp only [go_sem, seval, ↓reduceIte, decide_true, decide_false]; (first | refine hK _ _ _ (by simp only [go_sem, Nat.reduceEqDiff, ↓reduceIte]; rfl) ?_ | refine ⟨_, hTw, hK _ _ _ (by simp only [go_sem, Nat.reduceEqDiff, ↓reduceIte]; rfl) ?_⟩ | refine ⟨_, hT, hK _ _ _ (by simp only [go_sem, Nat.reduceEqDiff, ↓reduceIte]; rfl) ?_⟩); clear hK; clear K) | (with_reducible first | refine rgn_nil (by first | trivial | kernel_rfl) ?_ | refine AWP.seq ?_ | refine tX hC hP (by kernel_rfl) ?_ | refine aX hC hM hP (by kernel_rfl) ?_ | refine AWP.skip ?_ | refine AWP.label ?_ | refine AWP.exit ?_ | refine AWP.block ?_ | refine cTa ?_ | refine cFa ?_) | simp only [qS, Nat.reduceEqDiff, ↓reduceIte]))
  (refine AWP.ret ?_; refine retOk2 (by simp only [go_sem, seval, ↓reduceIte, decide_true, decide_false]; rfl) (by simp only [go_sem, seval, ↓reduceIte, decide_true, decide_false]; rfl) (by simp) ?_)
  rfl
end Go.Proofs.YtdnaecmcbkfpaaaGreat
