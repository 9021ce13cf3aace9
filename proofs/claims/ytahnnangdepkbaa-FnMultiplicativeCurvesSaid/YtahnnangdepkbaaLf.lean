/-
  RepresentativeBig.
-/
import Derived.Test.YtahnnangdepkbaaLd
import Derived.Test.YtahnnangdepkbaaLcc
import Derived.Test.YtahnnangdepkbaaLc
import Derived.Test.YtahnnangdepkbaaPa
namespace Go.Proofs.Ytahnnangdepkbaa
open Go.RowKit
set_option linter.unusedSimpArgs false
set_option linter.unusedVariables false
set_option linter.unusedSectionVars false
set_option maxRecDepth 20000
-- RepresentativeBig.
-- Two big vectors; sums.
theorem isBig_facts {m : Int} {l : List Int} (h : isBig m l = true) : 2 ≤ l.length ∧ l.length ≤ 11 ∧ 2 ≤ m ∧ m ≤ 10000 ∧ (∀ x ∈ l, 0 ≤ x ∧ x < m) ∧ at' l 0 = 1 := by
  simp only [isBig, Bool.and_eq_true, beq_iff_eq] at h
  obtain ⟨h1, h2, h3, h4, h5⟩ := isSer_len h.1
  exact ⟨h1, h2, h3, h4, fun x hx => by have := h5 x hx; omega, h.2⟩
def alikeB (m1 : Int) (l1 : List Int) (m2 : Int) (l2 : List Int) : Bool := (m1 == m2) && (l1.length == l2.length)
set_option maxHeartbeats 1000000 in
theorem c_impl_Series_alike (m1 m2 : Int) (l1 l2 : List Int) (h1 : l1.length ≤ 1099511627776) (h2 : l2.length ≤ 1099511627776) : AFn Try.prog 58 [.agg [.int .i64 m1, .sl false 2 (intL l1)], .agg [.int .i64 m2, .sl false 2 (intL l2)]] (.bool (alikeB m1 l1 m2 l2)) := by
  refine AFn.of' ttOk (by decide) Try.func58 Try.ntmps58 (by rw [Try.results58]) (by rfl) (by rfl) (by simp) (by decide) (by simp only [go_sem, Nat.reduceAdd, ↓reduceIte]; rfl) mixed (fun C hP hM hC => ?_)
  cases hm : (m1 == m2) with
  | false =>
    (repeat (first | ((with_reducible refine rgn_cons rfl (fun K hK => ?_)); simp only [go_sem, seval, ↓reduceIte, decide_true, decide_false, hm]; (refine hK _ _ _ (by simp only [go_sem, Nat.reduceEqDiff, ↓reduceIte]; rfl) ?_); clear hK; clear K) | (with_reducible first | refine rgn_nil (by first | trivial | kernel_rfl) ?_ | refine AWP.seq ?_ | refine tX hC hP (by kernel_rfl) ?_ | refine aX hC hM hP (by kernel_rfl) ?_ | refine AWP.skip ?_ | refine AWP.label ?_ | refine AWP.exit ?_ | refine AWP.block ?_ | refine cTa ?_ | refine cFa ?_) | simp only [qS, Nat.reduceEqDiff, ↓reduceIte]))
    (refine AWP.ret ?_; refine retOk1 (by simp only [go_sem, seval, ↓reduceIte, decide_true, decide_false]; rfl) ?_)
    simp [alikeB, hm]
  | true =>
    have e : (((l1.length : Int) - 1) == ((l2.length : Int) - 1)) = (l1.length == l2.length) := by
      rw [Bool.eq_iff_iff]; simp; omega
    (repeat (first | ((with_reducible refine rgn_cons rfl (fun K hK => ?_)); simp only [go_sem, seval, ↓reduceIte, decide_true, decide_false, hm, e]; (first | refine hK _ _ _ (by simp only [go_sem, Nat.reduceEqDiff, ↓reduceIte]; rfl) ?_ | refine ⟨_, c_impl_Series_degree m1 l1 h1, hK _ _ _ (by simp only [go_sem, Nat.reduceEqDiff, ↓reduceIte]; rfl) ?_⟩ | refine ⟨_, c_impl_Series_degree m2 l2 h2, hK _ _ _ (by simp only [go_sem, Nat.reduceEqDiff, ↓reduceIte]; rfl) ?_⟩); clear hK; clear K) | (with_reducible first | refine rgn_nil (by first | trivial | kernel_rfl) ?_ | refine AWP.seq ?_ | refine tX hC hP (by kernel_rfl) ?_ | refine aX hC hM hP (by kernel_rfl) ?_ | refine AWP.skip ?_ | refine AWP.label ?_ | refine AWP.exit ?_ | refine AWP.block ?_ | refine cTa ?_ | refine cFa ?_) | simp only [qS, Nat.reduceEqDiff, ↓reduceIte]))
    (refine AWP.ret ?_; refine retOk1 (by simp only [go_sem, seval, ↓reduceIte, decide_true, decide_false]; rfl) ?_)
    simp [alikeB, hm]
def twoB (m1 : Int) (l1 : List Int) (m2 : Int) (l2 : List Int) : Int := if (isBig m1 l1 && isBig m2 l2) = true then (if alikeB m1 l1 m2 l2 = true then 0 else 2) else 1
theorem twoB_zero {m1 m2 : Int} {l1 l2 : List Int} (h : twoB m1 l1 m2 l2 = 0) : isBig m1 l1 = true ∧ isBig m2 l2 = true ∧ m2 = m1 ∧ l2.length = l1.length := by
  unfold twoB at h
  split at h
  · rename_i h1
    split at h
    · rename_i h2
      simp only [Bool.and_eq_true] at h1
      simp only [alikeB, Bool.and_eq_true, beq_iff_eq] at h2
      exact ⟨h1.1, h1.2, h2.1.symm, h2.2.symm⟩
    · cases h
  · cases h
set_option maxHeartbeats 1000000 in
theorem c_impl_bothBig (m1 m2 : Int) (l1 l2 : List Int) (h1 : l1.length ≤ 1099511627776) (h2 : l2.length ≤ 1099511627776) : AFn Try.prog 22 [.agg [.int .i64 m1, .sl false 2 (intL l1)], .agg [.int .i64 m2, .sl false 2 (intL l2)]] (.int .i64 (twoB m1 l1 m2 l2)) := by
  refine AFn.of' ttOk (by decide) Try.func22 Try.ntmps22 (by rw [Try.results22]) (by rfl) (by rfl) (by simp) (by decide) (by simp only [go_sem, Nat.reduceAdd, ↓reduceIte]; rfl) mixed (fun C hP hM hC => ?_)
  have hA := c_impl_IsBigVector m1 l1 h1
  have hB := c_impl_IsBigVector m2 l2 h2
  have hC2 := c_impl_Series_alike m1 m2 l1 l2 h1 h2
  cases c1 : isBig m1 l1 with
  | false =>
    rw [c1] at hA
    (repeat (first | ((with_reducible refine rgn_cons rfl (fun K hK => ?_)); simp only [go_sem, seval, ↓reduceIte, decide_true, decide_false]; (first | refine hK _ _ _ (by simp only [go_sem, Nat.reduceEqDiff, ↓reduceIte]; rfl) ?_ | refine ⟨_, hA, hK _ _ _ (by simp only [go_sem, Nat.reduceEqDiff, ↓reduceIte]; rfl) ?_⟩ | refine ⟨_, hB, hK _ _ _ (by simp only [go_sem, Nat.reduceEqDiff, ↓reduceIte]; rfl) ?_⟩); clear hK; clear K) | (with_reducible first | refine rgn_nil (by first | trivial | kernel_rfl) ?_ | refine AWP.seq ?_ | refine tX hC hP (by kernel_rfl) ?_ | refine aX hC hM hP (by kernel_rfl) ?_ | refine AWP.skip ?_ | refine AWP.label ?_ | refine AWP.exit ?_ | refine AWP.block ?_ | refine cTa ?_ | refine cFa ?_) | simp only [qS, Nat.reduceEqDiff, ↓reduceIte]))
    (refine AWP.ret ?_; refine retOk1 (by simp only [go_sem, seval, ↓reduceIte, decide_true, decide_false]; rfl) ?_)
    simp [twoB, c1]
  | true =>
    rw [c1] at hA
    cases c2 : isBig m2 l2 with
    | false =>
      rw [c2] at hB
      (repeat (first | ((with_reducible refine rgn_cons rfl (fun K hK => ?_)); simp only [go_sem, seval, ↓reduceIte, decide_true, decide_false]; (first | refine hK _ _ _ (by simp only [go_sem, Nat.reduceEqDiff, ↓reduceIte]; rfl) ?_ | refine ⟨_, hA, hK _ _ _ (by simp only [go_sem, Nat.reduceEqDiff, ↓reduceIte]; rfl) ?_⟩ | refine ⟨_, hB, hK _ _ _ (by simp only [go_sem, Nat.reduceEqDiff, ↓reduceIte]; rfl) ?_⟩); clear hK; clear K) | (with_reducible first | refine rgn_nil (by first | trivial | kernel_rfl) ?_ | refine AWP.seq ?_ | refine tX hC hP (by kernel_rfl) ?_ | refine aX hC hM hP (by kernel_rfl) ?_ | refine AWP.skip ?_ | refine AWP.label ?_ | refine AWP.exit ?_ | refine AWP.block ?_ | refine cTa ?_ | refine cFa ?_) | simp only [qS, Nat.reduceEqDiff, ↓reduceIte]))
      (refine AWP.ret ?_; refine retOk1 (by simp only [go_sem, seval, ↓reduceIte, decide_true, decide_false]; rfl) ?_)
      simp [twoB, c2]
    | true =>
      rw [c2] at hB
      cases c3 : alikeB m1 l1 m2 l2 with
      | true =>
        rw [c3] at hC2
        (repeat (first | ((with_reducible refine rgn_cons rfl (fun K hK => ?_)); simp only [go_sem, seval, ↓reduceIte, decide_true, decide_false]; (first | refine hK _ _ _ (by simp only [go_sem, Nat.reduceEqDiff, ↓reduceIte]; rfl) ?_ | refine ⟨_, hA, hK _ _ _ (by simp only [go_sem, Nat.reduceEqDiff, ↓reduceIte]; rfl) ?_⟩ | refine ⟨_, hB, hK _ _ _ (by simp only [go_sem, Nat.reduceEqDiff, ↓reduceIte]; rfl) ?_⟩ | refine ⟨_, hC2, hK _ _ _ (by simp only [go_sem, Nat.reduceEqDiff, ↓reduceIte]; rfl) ?_⟩); clear hK; clear K) | (with_reducible first | refine rgn_nil (by first | trivial | kernel_rfl) ?_ | refine AWP.seq ?_ | refine tX hC hP (by kernel_rfl) ?_ | refine aX hC hM hP (by kernel_rfl) ?_ | refine AWP.skip ?_ | refine AWP.label ?_ | refine AWP.exit ?_ | refine AWP.block ?_ | refine cTa ?_ | refine cFa ?_) | simp only [qS, Nat.reduceEqDiff, ↓reduceIte]))
        (refine AWP.ret ?_; refine retOk1 (by simp only [go_sem, seval, ↓reduceIte, decide_true, decide_false]; rfl) ?_)
        simp [twoB, c1, c2, c3]
      | false =>
        rw [c3] at hC2
        (repeat (first | ((with_reducible refine rgn_cons rfl (fun K hK => ?_)); simp only [go_sem, seval, ↓reduceIte, decide_true, decide_false]; (first | refine hK _ _ _ (by simp only [go_sem, Nat.reduceEqDiff, ↓reduceIte]; rfl) ?_ | refine ⟨_, hA, hK _ _ _ (by simp only [go_sem, Nat.reduceEqDiff, ↓reduceIte]; rfl) ?_⟩ | refine ⟨_, hB, hK _ _ _ (by simp only [go_sem, Nat.reduceEqDiff, ↓reduceIte]; rfl) ?_⟩ | refine ⟨_, hC2, hK _ _ _ (by simp only [go_sem, Nat.reduceEqDiff, ↓reduceIte]; rfl) ?_⟩); clear hK; clear K) | (with_reducible first | refine rgn_nil (by first | trivial | kernel_rfl) ?_ | refine AWP.seq ?_ | refine tX hC hP (by kernel_rfl) ?_ | refine aX hC hM hP (by kernel_rfl) ?_ | refine AWP.skip ?_ | refine AWP.label ?_ | refine AWP.exit ?_ | refine AWP.block ?_ | refine cTa ?_ | refine cFa ?_) | simp only [qS, Nat.reduceEqDiff, ↓reduceIte]))
        (refine AWP.ret ?_; refine retOk1 (by simp only [go_sem, seval, ↓reduceIte, decide_true, decide_false]; rfl) ?_)
        simp [twoB, c1, c2, c3]
set_option maxHeartbeats 1000000 in
theorem c_impl_AddBig_ok (m1 m2 : Int) (l1 l2 : List Int) (h1 : l1.length ≤ 1099511627776) (h2 : l2.length ≤ 1099511627776) (h : twoB m1 l1 m2 l2 = 0) : AFn Try.prog 10 [.agg [.int .i64 m1, .sl false 2 (intL l1)], .agg [.int .i64 m2, .sl false 2 (intL l2)]] (.tup [.agg [.int .i64 m1, .sl true 2 (intL (timesL m1 l1 l2 (l1.length - 1)))], .int .i64 (twoB m1 l1 m2 l2)]) := by
  refine AFn.of' ttOk (by decide) Try.func10 Try.ntmps10 (by rw [Try.results10]) (by rfl) (by rfl) (by simp) (by decide) (by simp only [go_sem, Nat.reduceAdd, ↓reduceIte]; rfl) mixed (fun C hP hM hC => ?_)
  have hz := twoB_zero h
  have f1 := isBig_facts hz.1
  have f2 := isBig_facts hz.2.1
  have hT := c_impl_Series_times m1 l1 l2 (l1.length - 1) (by omega) (by omega) f1.2.2.2.2.1 (by rw [← hz.2.2.1]; exact f2.2.2.2.2.1) (by omega) (by omega) (by omega)
  have hTw := c_impl_bothBig m1 m2 l1 l2 h1 h2
  rw [h] at hTw ⊢
  obtain ⟨_, _, rfl, _⟩ := hz
  (repeat (first | ((with_reducible refine rgn_cons rfl (fun K hK => ?_)); simp only [go_sem, seval, ↓reduceIte, decide_true, decide_false]; (first | refine hK _ _ _ (by simp only [go_sem, Nat.reduceEqDiff, ↓reduceIte]; rfl) ?_ | refine ⟨_, hTw, hK _ _ _ (by simp only [go_sem, Nat.reduceEqDiff, ↓reduceIte]; rfl) ?_⟩ | refine ⟨_, hT, hK _ _ _ (by simp only [go_sem, Nat.reduceEqDiff, ↓reduceIte]; rfl) ?_⟩); clear hK; clear K) | (with_reducible first | refine rgn_nil (by first | trivial | kernel_rfl) ?_ | refine AWP.seq ?_ | refine tX hC hP (by kernel_rfl) ?_ | refine aX hC hM hP (by kernel_rfl) ?_ | refine AWP.skip ?_ | refine AWP.label ?_ | refine AWP.exit ?_ | refine AWP.block ?_ | refine cTa ?_ | refine cFa ?_) | simp only [qS, Nat.reduceEqDiff, ↓reduceIte]))
  (refine AWP.ret ?_; refine retOk2 (by simp only [go_sem, seval, ↓reduceIte, decide_true, decide_false]; rfl) (by simp only [go_sem, seval, ↓reduceIte, decide_true, decide_false]; rfl) (by simp) ?_)
  rfl
-- Powers of series: the program's; multiples of big vectors.
set_option maxHeartbeats 1000000 in
theorem c_impl_Series_power (m : Int) (la : List Int) (k d : Nat) (hm : 1 < m) (hm2 : m ≤ 10000) (ha : ∀ x ∈ la, 0 ≤ x ∧ x < m) (hla : la.length = d + 1) (hd : d ≤ 999999) (hk : k ≤ 1000000000000) : AFn Try.prog 35 [.agg [.int .i64 m, .sl false 2 (intL la)], .int .i64 k] (.agg [.int .i64 m, .sl true 2 (intL (powL m la k d))]) := by
  refine AFn.of' ttOk (by decide) Try.func35 Try.ntmps35 (by rw [Try.results35]) (by rfl) (by rfl) (by simp) (by decide) (by simp only [go_sem, Nat.reduceAdd, ↓reduceIte]; rfl) mixed (fun C hP hM hC => ?_)
  have e1 : (1 : Int) % m = 1 := Int.emod_eq_of_lt (by omega) (by omega)
  have hc := c_impl_Series_constant m la 1 (by omega) (by omega) (by omega) (by omega)
  rw [e1, hla, oneL_of] at hc
  (repeat (first | ((with_reducible refine rgn_cons rfl (fun K hK => ?_)); simp only [go_sem, seval, ↓reduceIte, decide_true, decide_false]; (first | refine hK _ _ _ (by simp only [go_sem, Nat.reduceEqDiff, ↓reduceIte]; rfl) ?_ | refine ⟨_, hc, hK _ _ _ (by simp only [go_sem, Nat.reduceEqDiff, ↓reduceIte]; rfl) ?_⟩); clear hK; clear K) | (with_reducible first | refine rgn_nil (by first | trivial | kernel_rfl) ?_ | refine AWP.seq ?_ | refine tX hC hP (by kernel_rfl) ?_ | refine aX hC hM hP (by kernel_rfl) ?_ | refine AWP.skip ?_ | refine AWP.label ?_ | refine AWP.exit ?_ | refine AWP.block ?_ | refine cTa ?_ | refine cFa ?_) | simp only [qS, Nat.reduceEqDiff, ↓reduceIte]))
  refine AWP.loop (fun w : Nat × List Int × List Int × Nat × Option Nat => match w with
    | (j, o, b, v5, none) => [(1, ⟨0, .val (.int .i64 j)⟩), (5, ⟨v5, .own (.box 36 (.agg [.int .i64 m, .sl true 2 (intL o)]))⟩), (2, ⟨1, .own (.box 36 (.agg [.int .i64 m, .sl false 2 (intL b)]))⟩), (4, ⟨1, .own (.box 36 (.agg [.int .i64 0, .nil]))⟩)]
    | (j, o, b, v5, some v2) => [(1, ⟨0, .val (.int .i64 j)⟩), (5, ⟨v5, .own (.box 36 (.agg [.int .i64 m, .sl true 2 (intL o)]))⟩), (2, ⟨v2, .own (.box 36 (.agg [.int .i64 m, .sl true 2 (intL b)]))⟩), (4, ⟨1, .own (.box 36 (.agg [.int .i64 0, .nil]))⟩)]) (fun w => w.1 ≤ k ∧ (w.2.1.length = d + 1 ∧ ∀ x ∈ w.2.1, 0 ≤ x ∧ x < m) ∧ (w.2.2.1.length = d + 1 ∧ ∀ x ∈ w.2.2.1, 0 ≤ x ∧ x < m) ∧ pwL m d w.2.1 w.2.2.1 w.1 = powL m la k d) (fun w => w.1) (k, oneL d, la, 2, none) ⟨Nat.le_refl _, ⟨oneL_length d, oneL_num d hm⟩, ⟨hla, ha⟩, rfl⟩ (fun w => by obtain ⟨_, _, _, _, x⟩ := w; cases x <;> rfl) ?_ (fun w hw => ?_)
  · simp [Sub, lk]
  · obtain ⟨j, o, b, v5, v2⟩ := w
    simp only at hw
    obtain ⟨hj, ho, hb, hE⟩ := hw
    have hT1 := c_impl_Series_times m o b d (by omega) hm2 ho.2 hb.2 ho.1 hb.1 (by omega)
    have hT2 := c_impl_Series_times m b b d (by omega) hm2 hb.2 hb.2 hb.1 hb.1 (by omega)
    cases v2 with
    | none =>
      simp only
      by_cases hs : 0 < j
      · have hs' : (0 : Int) < (j : Int) := by omega
        by_cases ho2 : j % 2 = 1
        · (repeat (first | ((with_reducible refine rgn_cons rfl (fun K hK => ?_)); simp only [go_sem, seval, ↓reduceIte, decide_true, decide_false, hs', nat_tmod2, nat_tdiv2, ho2, Int.cast_ofNat_Int, show (2 : Int) ≠ 0 by omega, wid ((j / 2 : Nat) : Int) (by omega) (by omega)]; (first | refine hK _ _ _ (by simp only [go_sem, Nat.reduceEqDiff, ↓reduceIte]; rfl) ?_ | refine ⟨_, hT1, hK _ _ _ (by simp only [go_sem, Nat.reduceEqDiff, ↓reduceIte]; rfl) ?_⟩ | refine ⟨_, hT2, hK _ _ _ (by simp only [go_sem, Nat.reduceEqDiff, ↓reduceIte]; rfl) ?_⟩); clear hK; clear K) | (with_reducible first | refine rgn_nil (by first | trivial | kernel_rfl) ?_ | refine AWP.seq ?_ | refine tX hC hP (by kernel_rfl) ?_ | refine aX hC hM hP (by kernel_rfl) ?_ | refine AWP.skip ?_ | refine AWP.label ?_ | refine AWP.exit ?_ | refine AWP.block ?_ | refine cTa ?_ | refine cFa ?_) | simp only [qS, Nat.reduceEqDiff, ↓reduceIte]))
          exact ⟨(j / 2, timesL m o b d, timesL m b b d, v5 + 1, some 2), ⟨by simp only; omega, ⟨timesL_length _ _ _ _, timesL_num _ _ _ _ (by omega)⟩, ⟨timesL_length _ _ _ _, timesL_num _ _ _ _ (by omega)⟩, by rw [← hE]; exact (pwL_odd ho2).symm⟩, by simp only; omega, by simp [Sub, lk]⟩
        · have ho3 : j % 2 = 0 := by omega
          (repeat (first | ((with_reducible refine rgn_cons rfl (fun K hK => ?_)); simp only [go_sem, seval, ↓reduceIte, decide_true, decide_false, hs', nat_tmod2, nat_tdiv2, ho3, Int.cast_ofNat_Int, Int.natCast_zero, show (2 : Int) ≠ 0 by omega, wid ((j / 2 : Nat) : Int) (by omega) (by omega)]; (first | refine hK _ _ _ (by simp only [go_sem, Nat.reduceEqDiff, ↓reduceIte]; rfl) ?_ | refine ⟨_, hT2, hK _ _ _ (by simp only [go_sem, Nat.reduceEqDiff, ↓reduceIte]; rfl) ?_⟩); clear hK; clear K) | (with_reducible first | refine rgn_nil (by first | trivial | kernel_rfl) ?_ | refine AWP.seq ?_ | refine tX hC hP (by kernel_rfl) ?_ | refine aX hC hM hP (by kernel_rfl) ?_ | refine AWP.skip ?_ | refine AWP.label ?_ | refine AWP.exit ?_ | refine AWP.block ?_ | refine cTa ?_ | refine cFa ?_) | simp only [qS, Nat.reduceEqDiff, ↓reduceIte]))
          exact ⟨(j / 2, o, timesL m b b d, v5, some 2), ⟨by simp only; omega, ho, ⟨timesL_length _ _ _ _, timesL_num _ _ _ _ (by omega)⟩, by rw [← hE]; exact (pwL_even hs ho3).symm⟩, by simp only; omega, by simp [Sub, lk]⟩
      · have hj0 : j = 0 := by omega
        subst hj0
        (repeat (first | ((with_reducible refine rgn_cons rfl (fun K hK => ?_)); simp only [go_sem, seval, ↓reduceIte, decide_true, decide_false, show ¬ (0 : Int) < ((0 : Nat) : Int) by omega, Int.natCast_zero, decide_false]; (refine hK _ _ _ (by simp only [go_sem, Nat.reduceEqDiff, ↓reduceIte]; rfl) ?_); clear hK; clear K) | (with_reducible first | refine rgn_nil (by first | trivial | kernel_rfl) ?_ | refine AWP.seq ?_ | refine tX hC hP (by kernel_rfl) ?_ | refine aX hC hM hP (by kernel_rfl) ?_ | refine AWP.skip ?_ | refine AWP.label ?_ | refine AWP.exit ?_ | refine AWP.block ?_ | refine cTa ?_ | refine cFa ?_) | simp only [qS, Nat.reduceEqDiff, ↓reduceIte]))
        (refine AWP.ret ?_; refine retOk1 (by simp only [go_sem, seval, ↓reduceIte, decide_true, decide_false]; rfl) ?_)
        rw [← hE, pwL_zero]
    | some v2 =>
      simp only
      by_cases hs : 0 < j
      · have hs' : (0 : Int) < (j : Int) := by omega
        by_cases ho2 : j % 2 = 1
        · (repeat (first | ((with_reducible refine rgn_cons rfl (fun K hK => ?_)); simp only [go_sem, seval, ↓reduceIte, decide_true, decide_false, hs', nat_tmod2, nat_tdiv2, ho2, Int.cast_ofNat_Int, show (2 : Int) ≠ 0 by omega, wid ((j / 2 : Nat) : Int) (by omega) (by omega)]; (first | refine hK _ _ _ (by simp only [go_sem, Nat.reduceEqDiff, ↓reduceIte]; rfl) ?_ | refine ⟨_, hT1, hK _ _ _ (by simp only [go_sem, Nat.reduceEqDiff, ↓reduceIte]; rfl) ?_⟩ | refine ⟨_, hT2, hK _ _ _ (by simp only [go_sem, Nat.reduceEqDiff, ↓reduceIte]; rfl) ?_⟩); clear hK; clear K) | (with_reducible first | refine rgn_nil (by first | trivial | kernel_rfl) ?_ | refine AWP.seq ?_ | refine tX hC hP (by kernel_rfl) ?_ | refine aX hC hM hP (by kernel_rfl) ?_ | refine AWP.skip ?_ | refine AWP.label ?_ | refine AWP.exit ?_ | refine AWP.block ?_ | refine cTa ?_ | refine cFa ?_) | simp only [qS, Nat.reduceEqDiff, ↓reduceIte]))
          exact ⟨(j / 2, timesL m o b d, timesL m b b d, v5 + 1, some (v2 + 1)), ⟨by simp only; omega, ⟨timesL_length _ _ _ _, timesL_num _ _ _ _ (by omega)⟩, ⟨timesL_length _ _ _ _, timesL_num _ _ _ _ (by omega)⟩, by rw [← hE]; exact (pwL_odd ho2).symm⟩, by simp only; omega, by simp [Sub, lk]⟩
        · have ho3 : j % 2 = 0 := by omega
          (repeat (first | ((with_reducible refine rgn_cons rfl (fun K hK => ?_)); simp only [go_sem, seval, ↓reduceIte, decide_true, decide_false, hs', nat_tmod2, nat_tdiv2, ho3, Int.cast_ofNat_Int, Int.natCast_zero, show (2 : Int) ≠ 0 by omega, wid ((j / 2 : Nat) : Int) (by omega) (by omega)]; (first | refine hK _ _ _ (by simp only [go_sem, Nat.reduceEqDiff, ↓reduceIte]; rfl) ?_ | refine ⟨_, hT2, hK _ _ _ (by simp only [go_sem, Nat.reduceEqDiff, ↓reduceIte]; rfl) ?_⟩); clear hK; clear K) | (with_reducible first | refine rgn_nil (by first | trivial | kernel_rfl) ?_ | refine AWP.seq ?_ | refine tX hC hP (by kernel_rfl) ?_ | refine aX hC hM hP (by kernel_rfl) ?_ | refine AWP.skip ?_ | refine AWP.label ?_ | refine AWP.exit ?_ | refine AWP.block ?_ | refine cTa ?_ | refine cFa ?_) | simp only [qS, Nat.reduceEqDiff, ↓reduceIte]))
          exact ⟨(j / 2, o, timesL m b b d, v5, some (v2 + 1)), ⟨by simp only; omega, ho, ⟨timesL_length _ _ _ _, timesL_num _ _ _ _ (by omega)⟩, by rw [← hE]; exact (pwL_even hs ho3).symm⟩, by simp only; omega, by simp [Sub, lk]⟩
      · have hj0 : j = 0 := by omega
        subst hj0
        (repeat (first | ((with_reducible refine rgn_cons rfl (fun K hK => ?_)); simp only [go_sem, seval, ↓reduceIte, decide_true, decide_false, show ¬ (0 : Int) < ((0 : Nat) : Int) by omega, Int.natCast_zero, decide_false]; (refine hK _ _ _ (by simp only [go_sem, Nat.reduceEqDiff, ↓reduceIte]; rfl) ?_); clear hK; clear K) | (with_reducible first | refine rgn_nil (by first | trivial | kernel_rfl) ?_ | refine AWP.seq ?_ | refine tX hC hP (by kernel_rfl) ?_ | refine aX hC hM hP (by kernel_rfl) ?_ | refine AWP.skip ?_ | refine AWP.label ?_ | refine AWP.exit ?_ | refine AWP.block ?_ | refine cTa ?_ | refine cFa ?_) | simp only [qS, Nat.reduceEqDiff, ↓reduceIte]))
        (refine AWP.ret ?_; refine retOk1 (by simp only [go_sem, seval, ↓reduceIte, decide_true, decide_false]; rfl) ?_)
        rw [← hE, pwL_zero]
-- Inverses of series.
-- Inverses of series: the program's; negatives of big vectors.
set_option maxHeartbeats 1000000 in
theorem c_impl_Series_inverse (m : Int) (la : List Int) (d : Nat) (hm : 1 < m) (hm2 : m ≤ 10000) (ha : ∀ x ∈ la, 0 ≤ x ∧ x < m) (hla : la.length = d + 1) (hd : d ≤ 999999) : AFn Try.prog 64 [.agg [.int .i64 m, .sl false 2 (intL la)]] (.agg [.int .i64 m, .sl true 2 (intL (invS m la d))]) := by
  refine AFn.of' ttOk (by decide) Try.func64 Try.ntmps64 (by rw [Try.results64]) (by rfl) (by rfl) (by simp) (by decide) (by simp only [go_sem, Nat.reduceAdd, ↓reduceIte]; rfl) mixed (fun C hP hM hC => ?_)
  have hu := invL_bound m (at' la 0) (by omega)
  have h0 : 0 < la.length := by omega
  have hz0 : 0 < (tab (d + 1) (fun _ => 0)).length := by rw [tab_length]; omega
  have e1 : tab (d + 1) (fun j => if j = 0 then invL m (at' la 0) else 0) = tab (d + 1) (at' (iL m (invL m (at' la 0)) (at' la) 1)) := tab_congr fun j _ => by
    rw [iL_one]
    by_cases e : j = 0
    · subst e; rfl
    · rw [if_neg e, at_out (by simp; omega)]
  (repeat (first | ((with_reducible refine rgn_cons rfl (fun K hK => ?_)); simp only [go_sem, seval, ↓reduceIte, decide_true, decide_false, intL_getD la 0 h0, show la.getD 0 0 = at' la 0 from rfl, Int.toNat_zero, Int.le_refl, show (0 : Int) < (la.length : Int) by omega, tab_length, show (0 : Int) < ((d + 1 : Nat) : Int) by omega, intL_get _ 0 hz0, List.take_zero, Nat.zero_mul, intL_modify, tab_set, e1]; (first | refine hK _ _ _ (by simp only [go_sem, Nat.reduceEqDiff, ↓reduceIte]; rfl) ?_ | refine ⟨_, c_impl_Series_degree m la (by omega), hK _ _ _ (by simp only [go_sem, Nat.reduceEqDiff, ↓reduceIte]; rfl) ?_⟩ | refine ⟨_, c_impl_zero m ((la.length : Int) - 1) (d + 1) (by omega) (by omega), hK _ _ _ (by simp only [go_sem, Nat.reduceEqDiff, ↓reduceIte]; rfl) ?_⟩ | refine ⟨_, c_impl_inverse m (at' la 0) (by omega) (by omega), hK _ _ _ (by simp only [go_sem, Nat.reduceEqDiff, ↓reduceIte]; rfl) ?_⟩); clear hK; clear K) | (with_reducible first | refine rgn_nil (by first | trivial | kernel_rfl) ?_ | refine AWP.seq ?_ | refine tX hC hP (by kernel_rfl) ?_ | refine aX hC hM hP (by kernel_rfl) ?_ | refine AWP.skip ?_ | refine AWP.label ?_ | refine AWP.exit ?_ | refine AWP.block ?_ | refine cTa ?_ | refine cFa ?_) | simp only [qS, Nat.reduceEqDiff, ↓reduceIte]))
  refine AWP.loop (fun n : Nat => [(5, ⟨0, .val (.int .i64 n)⟩), (3, ⟨2, .own (.box 36 (.agg [.int .i64 m, .sl true 2 (intL (tab (d + 1) (at' (iL m (invL m (at' la 0)) (at' la) n))))]))⟩), (4, ⟨0, .val (.int .i64 (invL m (at' la 0)))⟩), (1, ⟨1, .own (.box 36 (.agg [.int .i64 m, .sl false 2 (intL la)]))⟩), (2, ⟨1, .own (.box 36 (.agg [.int .i64 0, .nil]))⟩)]) (fun n => 0 < n ∧ n ≤ d + 1) (fun n => d + 1 - n) 1 ⟨by omega, by omega⟩ (fun i => rfl) ?_ (fun n hw => ?_)
  · simp [Sub, lk]
  · have hdg := c_impl_Series_degree m la (by omega)
    rw [hla] at hdg
    by_cases hn : n ≤ d
    · have hol : (tab (d + 1) (at' (iL m (invL m (at' la 0)) (at' la) n))).length = d + 1 := tab_length _ _
      have hon : ∀ x ∈ tab (d + 1) (at' (iL m (invL m (at' la 0)) (at' la) n)), 0 ≤ x ∧ x < m := by
        intro x hx
        obtain ⟨i, _, rfl⟩ := mem_tab.1 hx
        exact at_bound (iL_num _ _ (by omega) hu) (by omega) i
      have hT := c_impl_Series_times m la (tab (d + 1) (at' (iL m (invL m (at' la 0)) (at' la) n))) d (by omega) hm2 ha hon hla hol (by omega)
      have hlt : n < (timesL m la (tab (d + 1) (at' (iL m (invL m (at' la 0)) (at' la) n))) d).length := by rw [timesL_length]; omega
      have g1 : (timesL m la (tab (d + 1) (at' (iL m (invL m (at' la 0)) (at' la) n))) d).getD n 0 = sm n (fun i => at' la (i + 1) * at' (iL m (invL m (at' la 0)) (at' la) n) (n - 1 - i)) % m := by
        rw [timesL, tab_getD (by omega), cv_pad hw.1 hn]
      have hs := emod_b (sm n (fun i => at' la (i + 1) * at' (iL m (invL m (at' la 0)) (at' la) n) (n - 1 - i))) m (by omega)
      have hsu := emod_b (sm n (fun i => at' la (i + 1) * at' (iL m (invL m (at' la 0)) (at' la) n) (n - 1 - i)) % m * invL m (at' la 0)) m (by omega)
      have e2 := iC_eq (m := m) (u := invL m (at' la 0)) (a := at' la) (o := iL m (invL m (at' la 0)) (at' la) n) hw.1 rfl
      have hlt2 : n < (tab (d + 1) (at' (iL m (invL m (at' la 0)) (at' la) n))).length := by rw [tab_length]; omega
      have hset : (tab (d + 1) (at' (iL m (invL m (at' la 0)) (at' la) n))).set n (iC m (invL m (at' la 0)) (at' la) n (iL m (invL m (at' la 0)) (at' la) n)) = tab (d + 1) (at' (iL m (invL m (at' la 0)) (at' la) (n + 1))) := tab_set' (fun j _ => iL_pad m (invL m (at' la 0)) (at' la) n d j (by omega))
      (repeat (first | ((with_reducible refine rgn_cons rfl (fun K hK => ?_)); simp only [go_sem, seval, ↓reduceIte, decide_true, decide_false, show (n : Int) ≤ ((d + 1 : Nat) : Int) - 1 by omega, Int.toNat_natCast, Int.natCast_nonneg, timesL_length, tab_length, show (n : Int) < ((d + 1 : Nat) : Int) by omega, Nat.mul_one, intL_get _ n hlt, sizeL_take _ n (Nat.le_of_lt hlt), g1, intL_get _ n hlt2, sizeL_take _ n (Nat.le_of_lt hlt2), wid (0 - sm n (fun i => at' la (i + 1) * at' (iL m (invL m (at' la 0)) (at' la) n) (n - 1 - i)) % m * invL m (at' la 0) % m) (by omega) (by omega), e2, intL_modify, hset, wid ((n : Int) + 1) (by omega) (by omega)]; (first | refine hK _ _ _ (by simp only [go_sem, Nat.reduceEqDiff, ↓reduceIte]; rfl) ?_ | refine ⟨_, hdg, hK _ _ _ (by simp only [go_sem, Nat.reduceEqDiff, ↓reduceIte]; rfl) ?_⟩ | refine ⟨_, hT, hK _ _ _ (by simp only [go_sem, Nat.reduceEqDiff, ↓reduceIte]; rfl) ?_⟩ | refine ⟨_, c_impl_mul m (sm n (fun i => at' la (i + 1) * at' (iL m (invL m (at' la 0)) (at' la) n) (n - 1 - i)) % m) (invL m (at' la 0)) (by omega) (by omega) hs.1 hs.2 hu.1 hu.2, hK _ _ _ (by simp only [go_sem, Nat.reduceEqDiff, ↓reduceIte]; rfl) ?_⟩ | refine ⟨_, c_impl_mod (0 - sm n (fun i => at' la (i + 1) * at' (iL m (invL m (at' la 0)) (at' la) n) (n - 1 - i)) % m * invL m (at' la 0) % m) m (by omega) (by omega), hK _ _ _ (by simp only [go_sem, Nat.reduceEqDiff, ↓reduceIte]; rfl) ?_⟩); clear hK; clear K) | (with_reducible first | refine rgn_nil (by first | trivial | kernel_rfl) ?_ | refine AWP.seq ?_ | refine tX hC hP (by kernel_rfl) ?_ | refine aX hC hM hP (by kernel_rfl) ?_ | refine AWP.skip ?_ | refine AWP.label ?_ | refine AWP.exit ?_ | refine AWP.block ?_ | refine cTa ?_ | refine cFa ?_) | simp only [qS, Nat.reduceEqDiff, ↓reduceIte]))
      exact ⟨n + 1, by omega, by omega, by simp [Sub, lk]⟩
    · (repeat (first | ((with_reducible refine rgn_cons rfl (fun K hK => ?_)); simp only [go_sem, seval, ↓reduceIte, decide_true, decide_false, show ¬ (n : Int) ≤ ((d + 1 : Nat) : Int) - 1 by omega, decide_false]; (first | refine hK _ _ _ (by simp only [go_sem, Nat.reduceEqDiff, ↓reduceIte]; rfl) ?_ | refine ⟨_, hdg, hK _ _ _ (by simp only [go_sem, Nat.reduceEqDiff, ↓reduceIte]; rfl) ?_⟩); clear hK; clear K) | (with_reducible first | refine rgn_nil (by first | trivial | kernel_rfl) ?_ | refine AWP.seq ?_ | refine tX hC hP (by kernel_rfl) ?_ | refine aX hC hM hP (by kernel_rfl) ?_ | refine AWP.skip ?_ | refine AWP.label ?_ | refine AWP.exit ?_ | refine AWP.block ?_ | refine cTa ?_ | refine cFa ?_) | simp only [qS, Nat.reduceEqDiff, ↓reduceIte]))
      (refine AWP.ret ?_; refine retOk1 (by simp only [go_sem, seval, ↓reduceIte, decide_true, decide_false]; rfl) ?_)
      rw [show n = d + 1 by omega, tab_iL]; rfl
end Go.Proofs.Ytahnnangdepkbaa
