/-
  The order of a point.
-/
import Derived.Test.YtoooefcjkmfhoaaOa
namespace Go.Proofs.Ytoooefcjkmfhoaa
open Go.RowKit
set_option linter.unusedSimpArgs false
set_option linter.unusedVariables false
set_option linter.unusedSectionVars false
set_option maxRecDepth 20000
-- The order of a point.
set_option maxHeartbeats 2000000 in
theorem c_spec_l18Order (p a : Int) (pt : List Int) (N : Nat) (h5 : 5 ≤ p) (h97 : p ≤ 97) (ha : 0 ≤ a) (ha2 : a < p) (hk : ∀ k, PtOk p (itE p a pt k)) (hN : N ≤ 10000) (hz : itE p a pt N = []) (hm : ∀ k, k < N → itE p a pt k ≠ []) : AFn Try.prog 49 [.int .i64 p, .int .i64 a, .sl false 2 (intL pt)] (.int .i64 (N + 1 : Nat)) := by
  refine AFn.of' ttOk (by decide) Try.func49 Try.ntmps49 (by rw [Try.results49]) (by rfl) (by rfl) (by simp) (by decide) (by simp only [go_sem, Nat.reduceAdd, ↓reduceIte]; rfl) mixed (fun C hP hM hC => ?_)
  (repeat (first | ((with_reducible refine rgn_cons rfl (fun K hK => ?_)); simp only [go_sem, seval, ↓reduceIte, decide_true, decide_false]; (refine hK _ _ _ (by simp only [go_sem, Nat.reduceEqDiff, ↓reduceIte]; rfl) ?_); clear hK; clear K) | (with_reducible first | refine rgn_nil (by first | trivial | kernel_rfl) ?_ | refine AWP.seq ?_ | refine tX hC hP (by kernel_rfl) ?_ | refine aX hC hM hP (by kernel_rfl) ?_ | refine AWP.skip ?_ | refine AWP.label ?_ | refine AWP.exit ?_ | refine AWP.block ?_ | refine cTa ?_ | refine cFa ?_) | simp only [qS, Nat.reduceEqDiff, ↓reduceIte]))
  refine AWP.loop (fun w : Nat × Option Nat => match w with
    | (k, none) => [(7, ⟨0, .val (.int .i64 (k + 1 : Nat))⟩), (8, ⟨0, .val (.sl false 2 (intL (itE p a pt k)))⟩), (0, ⟨0, .val (.int .i64 p)⟩), (1, ⟨0, .val (.int .i64 a)⟩), (2, ⟨0, .val (.sl false 2 (intL pt))⟩)]
    | (k, some v) => [(7, ⟨0, .val (.int .i64 (k + 1 : Nat))⟩), (8, ⟨v, .own (.sl true 2 (intL (itE p a pt k)))⟩), (0, ⟨0, .val (.int .i64 p)⟩), (1, ⟨0, .val (.int .i64 a)⟩), (2, ⟨0, .val (.sl false 2 (intL pt))⟩)]) (fun w => w.1 ≤ N) (fun w => N - w.1) (0, none) (Nat.zero_le _) (fun i => by obtain ⟨k, v⟩ := i; cases v <;> rfl) ?_ (fun w hw => ?_)
  · simp [Sub, lk, intL, itE]
  · obtain ⟨k, v⟩ := w
    simp only at hw
    have hT := c_spec_l18Add p a (itE p a pt k) pt h5 h97 ha ha2 (hk k) (hk 0)
    have hl := (hk k).len
    by_cases hkN : k = N
    · subst hkN
      have hL : (itE p a pt k).length = 0 := by rw [hz]; rfl
      cases v with
      | none =>
        simp only
        (repeat (first | ((with_reducible refine rgn_cons rfl (fun K hK => ?_)); simp only [go_sem, seval, ↓reduceIte, decide_true, decide_false, show ¬ (0 : Int) < (((itE p a pt k).length : Nat) : Int) by omega, decide_false]; (refine hK _ _ _ (by simp only [go_sem, Nat.reduceEqDiff, ↓reduceIte]; rfl) ?_); clear hK; clear K) | (with_reducible first | refine rgn_nil (by first | trivial | kernel_rfl) ?_ | refine AWP.seq ?_ | refine tX hC hP (by kernel_rfl) ?_ | refine aX hC hM hP (by kernel_rfl) ?_ | refine AWP.skip ?_ | refine AWP.label ?_ | refine AWP.exit ?_ | refine AWP.block ?_ | refine cTa ?_ | refine cFa ?_) | simp only [qS, Nat.reduceEqDiff, ↓reduceIte]))
        (refine AWP.ret ?_; refine retOk1 (by simp only [go_sem, seval, ↓reduceIte, decide_true, decide_false]; rfl) ?_)
        rfl
      | some v =>
        simp only
        (repeat (first | ((with_reducible refine rgn_cons rfl (fun K hK => ?_)); simp only [go_sem, seval, ↓reduceIte, decide_true, decide_false, show ¬ (0 : Int) < (((itE p a pt k).length : Nat) : Int) by omega, decide_false]; (refine hK _ _ _ (by simp only [go_sem, Nat.reduceEqDiff, ↓reduceIte]; rfl) ?_); clear hK; clear K) | (with_reducible first | refine rgn_nil (by first | trivial | kernel_rfl) ?_ | refine AWP.seq ?_ | refine tX hC hP (by kernel_rfl) ?_ | refine aX hC hM hP (by kernel_rfl) ?_ | refine AWP.skip ?_ | refine AWP.label ?_ | refine AWP.exit ?_ | refine AWP.block ?_ | refine cTa ?_ | refine cFa ?_) | simp only [qS, Nat.reduceEqDiff, ↓reduceIte]))
        (refine AWP.ret ?_; refine retOk1 (by simp only [go_sem, seval, ↓reduceIte, decide_true, decide_false]; rfl) ?_)
        rfl
    · have hL : 0 < (itE p a pt k).length := by
        rcases Nat.eq_zero_or_pos (itE p a pt k).length with e | e
        · exact absurd (List.eq_nil_of_length_eq_zero e) (hm k (by omega))
        · exact e
      cases v with
      | none =>
        simp only
        (repeat (first | ((with_reducible refine rgn_cons rfl (fun K hK => ?_)); simp only [go_sem, seval, ↓reduceIte, decide_true, decide_false, show (0 : Int) < (((itE p a pt k).length : Nat) : Int) by omega, decide_true, wid (((k + 1 : Nat) : Int) + 1) (by omega) (by omega)]; (first | refine hK _ _ _ (by simp only [go_sem, Nat.reduceEqDiff, ↓reduceIte]; rfl) ?_ | refine ⟨_, hT, hK _ _ _ (by simp only [go_sem, Nat.reduceEqDiff, ↓reduceIte]; rfl) ?_⟩); clear hK; clear K) | (with_reducible first | refine rgn_nil (by first | trivial | kernel_rfl) ?_ | refine AWP.seq ?_ | refine tX hC hP (by kernel_rfl) ?_ | refine aX hC hM hP (by kernel_rfl) ?_ | refine AWP.skip ?_ | refine AWP.label ?_ | refine AWP.exit ?_ | refine AWP.block ?_ | refine cTa ?_ | refine cFa ?_) | simp only [qS, Nat.reduceEqDiff, ↓reduceIte]))
        exact ⟨(k + 1, some 1), by simp only; omega, by simp only; omega, by simp [Sub, lk, itE]⟩
      | some v =>
        simp only
        (repeat (first | ((with_reducible refine rgn_cons rfl (fun K hK => ?_)); simp only [go_sem, seval, ↓reduceIte, decide_true, decide_false, show (0 : Int) < (((itE p a pt k).length : Nat) : Int) by omega, decide_true, wid (((k + 1 : Nat) : Int) + 1) (by omega) (by omega)]; (first | refine hK _ _ _ (by simp only [go_sem, Nat.reduceEqDiff, ↓reduceIte]; rfl) ?_ | refine ⟨_, hT, hK _ _ _ (by simp only [go_sem, Nat.reduceEqDiff, ↓reduceIte]; rfl) ?_⟩); clear hK; clear K) | (with_reducible first | refine rgn_nil (by first | trivial | kernel_rfl) ?_ | refine AWP.seq ?_ | refine tX hC hP (by kernel_rfl) ?_ | refine aX hC hM hP (by kernel_rfl) ?_ | refine AWP.skip ?_ | refine AWP.label ?_ | refine AWP.exit ?_ | refine AWP.block ?_ | refine cTa ?_ | refine cFa ?_) | simp only [qS, Nat.reduceEqDiff, ↓reduceIte]))
        exact ⟨(k + 1, some (v + 1)), by simp only; omega, by simp only; omega, by simp [Sub, lk, itE]⟩
-- The order of a point, in the program.
set_option maxHeartbeats 2000000 in
theorem c_impl_elliptic_order (p a b : Int) (pt : List Int) (N : Nat) (h5 : 5 ≤ p) (h97 : p ≤ 97) (ha : 0 ≤ a) (ha2 : a < p) (hk : ∀ k, PtOk p (itE p a pt k)) (hN : N ≤ 10000) (hz : itE p a pt N = []) (hm : ∀ k, k < N → itE p a pt k ≠ []) : AFn Try.prog 46 [.agg [.int .i64 p, .int .i64 a, .int .i64 b], .sl false 2 (intL pt)] (.int .i64 (N + 1 : Nat)) := by
  refine AFn.of' ttOk (by decide) Try.func46 Try.ntmps46 (by rw [Try.results46]) (by rfl) (by rfl) (by simp) (by decide) (by simp only [go_sem, Nat.reduceAdd, ↓reduceIte]; rfl) mixed (fun C hP hM hC => ?_)
  (repeat (first | ((with_reducible refine rgn_cons rfl (fun K hK => ?_)); simp only [go_sem, seval, ↓reduceIte, decide_true, decide_false]; (refine hK _ _ _ (by simp only [go_sem, Nat.reduceEqDiff, ↓reduceIte]; rfl) ?_); clear hK; clear K) | (with_reducible first | refine rgn_nil (by first | trivial | kernel_rfl) ?_ | refine AWP.seq ?_ | refine tX hC hP (by kernel_rfl) ?_ | refine aX hC hM hP (by kernel_rfl) ?_ | refine AWP.skip ?_ | refine AWP.label ?_ | refine AWP.exit ?_ | refine AWP.block ?_ | refine cTa ?_ | refine cFa ?_) | simp only [qS, Nat.reduceEqDiff, ↓reduceIte]))
  refine AWP.loop (fun w : Nat × Option Nat => match w with
    | (k, none) => [(5, ⟨0, .val (.int .i64 (k + 1 : Nat))⟩), (6, ⟨0, .val (.sl false 2 (intL (itE p a pt k)))⟩), (2, ⟨1, .own (.box 56 (.agg [.int .i64 p, .int .i64 a, .int .i64 b]))⟩), (1, ⟨0, .val (.sl false 2 (intL pt))⟩)]
    | (k, some v) => [(5, ⟨0, .val (.int .i64 (k + 1 : Nat))⟩), (6, ⟨v, .own (.sl true 2 (intL (itE p a pt k)))⟩), (2, ⟨1, .own (.box 56 (.agg [.int .i64 p, .int .i64 a, .int .i64 b]))⟩), (1, ⟨0, .val (.sl false 2 (intL pt))⟩)]) (fun w => w.1 ≤ N) (fun w => N - w.1) (0, none) (Nat.zero_le _) (fun i => by obtain ⟨k, v⟩ := i; cases v <;> rfl) ?_ (fun w hw => ?_)
  · simp [Sub, lk, intL, itE]
  · obtain ⟨k, v⟩ := w
    simp only at hw
    have hT := c_impl_elliptic_sum p a b (itE p a pt k) pt h5 h97 ha ha2 (hk k) (hk 0)
    have hl := (hk k).len
    by_cases hkN : k = N
    · subst hkN
      have hL : (itE p a pt k).length = 0 := by rw [hz]; rfl
      cases v with
      | none =>
        simp only
        (repeat (first | ((with_reducible refine rgn_cons rfl (fun K hK => ?_)); simp only [go_sem, seval, ↓reduceIte, decide_true, decide_false, show ¬ (0 : Int) < (((itE p a pt k).length : Nat) : Int) by omega, decide_false]; (refine hK _ _ _ (by simp only [go_sem, Nat.reduceEqDiff, ↓reduceIte]; rfl) ?_); clear hK; clear K) | (with_reducible first | refine rgn_nil (by first | trivial | kernel_rfl) ?_ | refine AWP.seq ?_ | refine tX hC hP (by kernel_rfl) ?_ | refine aX hC hM hP (by kernel_rfl) ?_ | refine AWP.skip ?_ | refine AWP.label ?_ | refine AWP.exit ?_ | refine AWP.block ?_ | refine cTa ?_ | refine cFa ?_) | simp only [qS, Nat.reduceEqDiff, ↓reduceIte]))
        (refine AWP.ret ?_; refine retOk1 (by simp only [go_sem, seval, ↓reduceIte, decide_true, decide_false]; rfl) ?_)
        rfl
      | some v =>
        simp only
        (repeat (first | ((with_reducible refine rgn_cons rfl (fun K hK => ?_)); simp only [go_sem, seval, ↓reduceIte, decide_true, decide_false, show ¬ (0 : Int) < (((itE p a pt k).length : Nat) : Int) by omega, decide_false]; (refine hK _ _ _ (by simp only [go_sem, Nat.reduceEqDiff, ↓reduceIte]; rfl) ?_); clear hK; clear K) | (with_reducible first | refine rgn_nil (by first | trivial | kernel_rfl) ?_ | refine AWP.seq ?_ | refine tX hC hP (by kernel_rfl) ?_ | refine aX hC hM hP (by kernel_rfl) ?_ | refine AWP.skip ?_ | refine AWP.label ?_ | refine AWP.exit ?_ | refine AWP.block ?_ | refine cTa ?_ | refine cFa ?_) | simp only [qS, Nat.reduceEqDiff, ↓reduceIte]))
        (refine AWP.ret ?_; refine retOk1 (by simp only [go_sem, seval, ↓reduceIte, decide_true, decide_false]; rfl) ?_)
        rfl
    · have hL : 0 < (itE p a pt k).length := by
        rcases Nat.eq_zero_or_pos (itE p a pt k).length with e | e
        · exact absurd (List.eq_nil_of_length_eq_zero e) (hm k (by omega))
        · exact e
      cases v with
      | none =>
        simp only
        (repeat (first | ((with_reducible refine rgn_cons rfl (fun K hK => ?_)); simp only [go_sem, seval, ↓reduceIte, decide_true, decide_false, show (0 : Int) < (((itE p a pt k).length : Nat) : Int) by omega, decide_true, wid (((k + 1 : Nat) : Int) + 1) (by omega) (by omega)]; (first | refine hK _ _ _ (by simp only [go_sem, Nat.reduceEqDiff, ↓reduceIte]; rfl) ?_ | refine ⟨_, hT, hK _ _ _ (by simp only [go_sem, Nat.reduceEqDiff, ↓reduceIte]; rfl) ?_⟩); clear hK; clear K) | (with_reducible first | refine rgn_nil (by first | trivial | kernel_rfl) ?_ | refine AWP.seq ?_ | refine tX hC hP (by kernel_rfl) ?_ | refine aX hC hM hP (by kernel_rfl) ?_ | refine AWP.skip ?_ | refine AWP.label ?_ | refine AWP.exit ?_ | refine AWP.block ?_ | refine cTa ?_ | refine cFa ?_) | simp only [qS, Nat.reduceEqDiff, ↓reduceIte]))
        exact ⟨(k + 1, some 1), by simp only; omega, by simp only; omega, by simp [Sub, lk, itE]⟩
      | some v =>
        simp only
        (repeat (first | ((with_reducible refine rgn_cons rfl (fun K hK => ?_)); simp only [go_sem, seval, ↓reduceIte, decide_true, decide_false, show (0 : Int) < (((itE p a pt k).length : Nat) : Int) by omega, decide_true, wid (((k + 1 : Nat) : Int) + 1) (by omega) (by omega)]; (first | refine hK _ _ _ (by simp only [go_sem, Nat.reduceEqDiff, ↓reduceIte]; rfl) ?_ | refine ⟨_, hT, hK _ _ _ (by simp only [go_sem, Nat.reduceEqDiff, ↓reduceIte]; rfl) ?_⟩); clear hK; clear K) | (with_reducible first | refine rgn_nil (by first | trivial | kernel_rfl) ?_ | refine AWP.seq ?_ | refine tX hC hP (by kernel_rfl) ?_ | refine aX hC hM hP (by kernel_rfl) ?_ | refine AWP.skip ?_ | refine AWP.label ?_ | refine AWP.exit ?_ | refine AWP.block ?_ | refine cTa ?_ | refine cFa ?_) | simp only [qS, Nat.reduceEqDiff, ↓reduceIte]))
        exact ⟨(k + 1, some (v + 1)), by simp only; omega, by simp only; omega, by simp [Sub, lk, itE]⟩
-- OrderOfPoint.
/-- The least number of further sums that come to nothing. -/
def ordN (p a : Int) (pt : List Int) : Nat := ((List.range 9411).find? (fun k => (itE p a pt k).length == 0)).getD 0
theorem ordN_facts {p a b : Int} {pt : List Int} (h : fieldB p = true) (hd : disc p a b ≠ 0) (hs : hasB p a b pt = true) :
    ordN p a pt ≤ 10000 ∧ itE p a pt (ordN p a pt) = [] ∧ ∀ k, k < ordN p a pt → itE p a pt k ≠ [] := by
  obtain ⟨N, h1, h2⟩ := itE_zero h hd hs
  unfold ordN
  cases e : (List.range 9411).find? (fun k => (itE p a pt k).length == 0) with
  | none =>
    have := List.find?_eq_none.1 e N (List.mem_range.2 (by omega))
    simp [h2] at this
  | some k =>
    obtain ⟨g1, g2, g3⟩ := List.find?_range_eq_some.1 e
    simp only [Option.getD_some]
    refine ⟨by have := List.mem_range.1 g2; omega, List.eq_nil_of_length_eq_zero (by simpa using g1), fun j hj e2 => ?_⟩
    have := g3 j hj
    simp [e2] at this
def orderR (p a b : Int) (l : List Int) : Int := if codeP p a b [l] = 0 then ((ordN p a l + 1 : Nat) : Int) else 0
set_option maxHeartbeats 1000000 in
theorem c_impl_OrderOfPoint (p a b : Int) (l : List Int) (hl : l.length ≤ 1099511627776) : AFn Try.prog 29 [.int .i64 p, .int .i64 a, .int .i64 b, .sl false 2 (intL l)] (.tup [.int .i64 (orderR p a b l), .int .i64 (codeP p a b [l])]) := by
  refine AFn.of' ttOk (by decide) Try.func29 Try.ntmps29 (by rw [Try.results29]) (by rfl) (by rfl) (by simp) (by decide) (by simp only [go_sem, Nat.reduceAdd, ↓reduceIte]; rfl) mixed (fun C hP hM hC => ?_)
  have hB := c_impl_curveAt_pts p a b [l] (by simp) (by simp only [List.forall_mem_cons]; exact ⟨hl, by simp⟩)
  by_cases h : codeP p a b [l] = 0
  · have hk := codeP_ok h
    have hz := codeP_zero h
    have he := codeE_zero hz.1
    have hh := hz.2 l (by simp)
    have ho := ordN_facts he.1 he.2.2.2.2.2.2.2 hh
    have hA := c_impl_elliptic_order p a b l (ordN p a l) hk.1.h5 hk.1.h97 hk.1.ha hk.1.ha2 (fun k => hasB_ok (itE_has he.1 hh k)) ho.1 ho.2.1 ho.2.2
    have hR : orderR p a b l = ((ordN p a l + 1 : Nat) : Int) := if_pos h
    rw [hR]
    rw [h] at hB ⊢
    (repeat (first | ((with_reducible refine rgn_cons rfl (fun K hK => ?_)); simp only [go_sem, seval, ↓reduceIte, decide_true, decide_false]; (first | refine hK _ _ _ (by simp only [go_sem, Nat.reduceEqDiff, ↓reduceIte]; rfl) ?_ | refine ⟨_, hB, hK _ _ _ (by simp only [go_sem, Nat.reduceEqDiff, ↓reduceIte]; rfl) ?_⟩ | refine ⟨_, hA, hK _ _ _ (by simp only [go_sem, Nat.reduceEqDiff, ↓reduceIte]; rfl) ?_⟩); clear hK; clear K) | (with_reducible first | refine rgn_nil (by first | trivial | kernel_rfl) ?_ | refine AWP.seq ?_ | refine tX hC hP (by kernel_rfl) ?_ | refine aX hC hM hP (by kernel_rfl) ?_ | refine AWP.skip ?_ | refine AWP.label ?_ | refine AWP.exit ?_ | refine AWP.block ?_ | refine cTa ?_ | refine cFa ?_) | simp only [qS, Nat.reduceEqDiff, ↓reduceIte]))
    (refine AWP.ret ?_; refine retOk2 (by simp only [go_sem, seval, ↓reduceIte, decide_true, decide_false]; rfl) (by simp only [go_sem, seval, ↓reduceIte, decide_true, decide_false]; rfl) (by simp) ?_)
    rfl
  · have hb : (codeP p a b [l] != 0) = true := by simp [h]
    have hR : orderR p a b l = 0 := if_neg h
    rw [hR]
    (repeat (first | ((with_reducible refine rgn_cons rfl (fun K hK => ?_)); simp only [go_sem, seval, ↓reduceIte, decide_true, decide_false, hb]; (first | refine hK _ _ _ (by simp only [go_sem, Nat.reduceEqDiff, ↓reduceIte]; rfl) ?_ | refine ⟨_, hB, hK _ _ _ (by simp only [go_sem, Nat.reduceEqDiff, ↓reduceIte]; rfl) ?_⟩); clear hK; clear K) | (with_reducible first | refine rgn_nil (by first | trivial | kernel_rfl) ?_ | refine AWP.seq ?_ | refine tX hC hP (by kernel_rfl) ?_ | refine aX hC hM hP (by kernel_rfl) ?_ | refine AWP.skip ?_ | refine AWP.label ?_ | refine AWP.exit ?_ | refine AWP.block ?_ | refine cTa ?_ | refine cFa ?_) | simp only [qS, Nat.reduceEqDiff, ↓reduceIte]))
    (refine AWP.ret ?_; refine retOk2 (by simp only [go_sem, seval, ↓reduceIte, decide_true, decide_false]; rfl) (by simp only [go_sem, seval, ↓reduceIte, decide_true, decide_false]; rfl) (by simp) ?_)
    rfl
end Go.Proofs.Ytoooefcjkmfhoaa
