/-
  OrderOfPoint.
-/
import Derived.Test.YtmnkklkolngfoaaOg
import Derived.Test.YtmnkklkolngfoaaOh
namespace Go.Proofs.Ytmnkklkolngfoaa
open Go.RowKit
set_option linter.unusedSimpArgs false
set_option linter.unusedVariables false
set_option linter.unusedSectionVars false
set_option maxRecDepth 20000
-- OrderOfPoint.
/-- The least number of further sums that come to nothing. -/
def ordN (p a : Int) (pt : List Int) : Nat := ((List.range 9411).find? (fun k => (itE p a pt k).length == 0)).getD 0
theorem ordN_facts {p a b : Int} {pt : List Int} (h : fieldB p = true) (hd : disc p a b ≠ 0) (hs : hasB p a b pt = true) :
    ordN p a pt ≤ 10000 ∧ itE p a pt (ordN p a pt) = [] ∧ ∀ k, k < ordN p a pt → itE p a pt k ≠ [] := by
  obtain ⟨N, h1, h2⟩ := itE_zero h hd hs
  unfold ordN
  cases e : (List.range 9411).find? (fun k => (itE p a pt k).length == 0) with
  | none =>
    have := List.find?_eq_none.1 e N (List.mem_range.2 (by omega))
    simp [h2] at this
  | some k =>
    obtain ⟨g1, g2, g3⟩ := List.find?_range_eq_some.1 e
    simp only [Option.getD_some]
    refine ⟨by have := List.mem_range.1 g2; omega, List.eq_nil_of_length_eq_zero (by simpa using g1), fun j hj e2 => ?_⟩
    have := g3 j hj
    simp [e2] at this
def orderR (p a b : Int) (l : List Int) : Int := if codeP p a b [l] = 0 then ((ordN p a l + 1 : Nat) : Int) else 0
theorem c_spec_OrderOfPoint (p a b : Int) (l : List Int) (hl : l.length ≤ 1099511627776) : AFn Try.prog 42 [.int .i64 p, .int .i64 a, .int .i64 b, .sl false 2 (intL l)] (.tup [.int .i64 (orderR p a b l), .int .i64 (codeP p a b [l])]) := by
  refine AFn.of' ttOk (by decide) Try.func42 Try.ntmps42 (by rw [Try.results42]) (by rfl) (by rfl) (by simp) (by decide) (by simp only [go_sem, Nat.reduceAdd, ↓reduceIte]; rfl) mixed (fun C hP hM hC => ?_)
  have hB := c_spec_l18Both p a b [l] (by simp) (by simp only [List.forall_mem_cons]; exact ⟨hl, by simp⟩)
  by_cases h : codeP p a b [l] = 0
  · have hk := codeP_ok h
    have hz := codeP_zero h
    have he := codeE_zero hz.1
    have hh := hz.2 l (by simp)
    have ho := ordN_facts he.1 he.2.2.2.2.2.2.2 hh
    have hA := c_spec_l18Order p a l (ordN p a l) hk.1.h5 hk.1.h97 hk.1.ha hk.1.ha2 (fun k => hasB_ok (itE_has he.1 hh k)) ho.1 ho.2.1 ho.2.2
    have hR : orderR p a b l = ((ordN p a l + 1 : Nat) : Int) := if_pos h
    rw [hR]
    rw [h] at hB ⊢
    (repeat (first | ((with_reducible refine rgn_cons rfl (fun K hK => ?_)); simp only [go_sem, seval, ↓reduceIte, decide_true, decide_false]; (first | refine hK _ _ _ (by simp only [go_sem, Nat.reduceEqDiff, ↓reduceIte]; rfl) ?_ | refine ⟨_, hB, hK _ _ _ (by simp only [go_sem, Nat.reduceEqDiff, ↓reduceIte]; rfl) ?_⟩ | refine ⟨_, hA, hK _ _ _ (by simp only [go_sem, Nat.reduceEqDiff, ↓reduceIte]; rfl) ?_⟩); clear hK; clear K) | (with_reducible first | refine rgn_nil (by first | trivial | kernel_rfl) ?_ | refine AWP.seq ?_ | refine tX hC hP (by kernel_rfl) ?_ | refine aX hC hM hP (by kernel_rfl) ?_ | refine AWP.skip ?_ | refine AWP.label ?_ | refine AWP.exit ?_ | refine AWP.block ?_ | refine cT (by simp only [go_sem, Nat.reduceEqDiff, ↓reduceIte]; with_reducible rfl) ?_ | refine cF (by simp only [go_sem, Nat.reduceEqDiff, ↓reduceIte]; with_reducible rfl) ?_) | simp only [qS, Nat.reduceEqDiff, ↓reduceIte]))
    (refine AWP.ret ?_; first | refine retOk1 (by simp only [go_sem, seval, ↓reduceIte, decide_true, decide_false]; rfl) ?_ | refine retOk2 (by simp only [go_sem, seval, ↓reduceIte, decide_true, decide_false]; rfl) (by simp only [go_sem, seval, ↓reduceIte, decide_true, decide_false]; rfl) (by simp) ?_ | refine retOk3 (by simp only [go_sem, seval, ↓reduceIte, decide_true, decide_false]; rfl) (by simp only [go_sem, seval, ↓reduceIte, decide_true, decide_false]; rfl) (by simp only [go_sem, seval, ↓reduceIte, decide_true, decide_false]; rfl) (by simp) ?_)
    rfl
  · have hb : (codeP p a b [l] != 0) = true := by simp [h]
    have hR : orderR p a b l = 0 := if_neg h
    rw [hR]
    (repeat (first | ((with_reducible refine rgn_cons rfl (fun K hK => ?_)); simp only [go_sem, seval, ↓reduceIte, decide_true, decide_false, hb]; (first | refine hK _ _ _ (by simp only [go_sem, Nat.reduceEqDiff, ↓reduceIte]; rfl) ?_ | refine ⟨_, hB, hK _ _ _ (by simp only [go_sem, Nat.reduceEqDiff, ↓reduceIte]; rfl) ?_⟩); clear hK; clear K) | (with_reducible first | refine rgn_nil (by first | trivial | kernel_rfl) ?_ | refine AWP.seq ?_ | refine tX hC hP (by kernel_rfl) ?_ | refine aX hC hM hP (by kernel_rfl) ?_ | refine AWP.skip ?_ | refine AWP.label ?_ | refine AWP.exit ?_ | refine AWP.block ?_ | refine cT (by simp only [go_sem, Nat.reduceEqDiff, ↓reduceIte]; with_reducible rfl) ?_ | refine cF (by simp only [go_sem, Nat.reduceEqDiff, ↓reduceIte]; with_reducible rfl) ?_) | simp only [qS, Nat.reduceEqDiff, ↓reduceIte]))
    (refine AWP.ret ?_; first | refine retOk1 (by simp only [go_sem, seval, ↓reduceIte, decide_true, decide_false]; rfl) ?_ | refine retOk2 (by simp only [go_sem, seval, ↓reduceIte, decide_true, decide_false]; rfl) (by simp only [go_sem, seval, ↓reduceIte, decide_true, decide_false]; rfl) (by simp) ?_ | refine retOk3 (by simp only [go_sem, seval, ↓reduceIte, decide_true, decide_false]; rfl) (by simp only [go_sem, seval, ↓reduceIte, decide_true, decide_false]; rfl) (by simp only [go_sem, seval, ↓reduceIte, decide_true, decide_false]; rfl) (by simp) ?_)
    rfl
theorem c_impl_OrderOfPoint (p a b : Int) (l : List Int) (hl : l.length ≤ 1099511627776) : AFn Try.prog 44 [.int .i64 p, .int .i64 a, .int .i64 b, .sl false 2 (intL l)] (.tup [.int .i64 (orderR p a b l), .int .i64 (codeP p a b [l])]) := by
  refine AFn.of' ttOk (by decide) Try.func44 Try.ntmps44 (by rw [Try.results44]) (by rfl) (by rfl) (by simp) (by decide) (by simp only [go_sem, Nat.reduceAdd, ↓reduceIte]; rfl) mixed (fun C hP hM hC => ?_)
  have hB := c_impl_curveAt_pts p a b [l] (by simp) (by simp only [List.forall_mem_cons]; exact ⟨hl, by simp⟩)
  by_cases h : codeP p a b [l] = 0
  · have hk := codeP_ok h
    have hz := codeP_zero h
    have he := codeE_zero hz.1
    have hh := hz.2 l (by simp)
    have ho := ordN_facts he.1 he.2.2.2.2.2.2.2 hh
    have hA := c_impl_elliptic_order p a b l (ordN p a l) hk.1.h5 hk.1.h97 hk.1.ha hk.1.ha2 (fun k => hasB_ok (itE_has he.1 hh k)) ho.1 ho.2.1 ho.2.2
    have hR : orderR p a b l = ((ordN p a l + 1 : Nat) : Int) := if_pos h
    rw [hR]
    rw [h] at hB ⊢
    (repeat (first | ((with_reducible refine rgn_cons rfl (fun K hK => ?_)); simp only [go_sem, seval, ↓reduceIte, decide_true, decide_false]; (first | refine hK _ _ _ (by simp only [go_sem, Nat.reduceEqDiff, ↓reduceIte]; rfl) ?_ | refine ⟨_, hB, hK _ _ _ (by simp only [go_sem, Nat.reduceEqDiff, ↓reduceIte]; rfl) ?_⟩ | refine ⟨_, hA, hK _ _ _ (by simp only [go_sem, Nat.reduceEqDiff, ↓reduceIte]; rfl) ?_⟩); clear hK; clear K) | (with_reducible first | refine rgn_nil (by first | trivial | kernel_rfl) ?_ | refine AWP.seq ?_ | refine tX hC hP (by kernel_rfl) ?_ | refine aX hC hM hP (by kernel_rfl) ?_ | refine AWP.skip ?_ | refine AWP.label ?_ | refine AWP.exit ?_ | refine AWP.block ?_ | refine cT (by simp only [go_sem, Nat.reduceEqDiff, ↓reduceIte]; with_reducible rfl) ?_ | refine cF (by simp only [go_sem, Nat.reduceEqDiff, ↓reduceIte]; with_reducible rfl) ?_) | simp only [qS, Nat.reduceEqDiff, ↓reduceIte]))
    (refine AWP.ret ?_; first | refine retOk1 (by simp only [go_sem, seval, ↓reduceIte, decide_true, decide_false]; rfl) ?_ | refine retOk2 (by simp only [go_sem, seval, ↓reduceIte, decide_true, decide_false]; rfl) (by simp only [go_sem, seval, ↓reduceIte, decide_true, decide_false]; rfl) (by simp) ?_ | refine retOk3 (by simp only [go_sem, seval, ↓reduceIte, decide_true, decide_false]; rfl) (by simp only [go_sem, seval, ↓reduceIte, decide_true, decide_false]; rfl) (by simp only [go_sem, seval, ↓reduceIte, decide_true, decide_false]; rfl) (by simp) ?_)
    rfl
  · have hb : (codeP p a b [l] != 0) = true := by simp [h]
    have hR : orderR p a b l = 0 := if_neg h
    rw [hR]
    (repeat (first | ((with_reducible refine rgn_cons rfl (fun K hK => ?_)); simp only [go_sem, seval, ↓reduceIte, decide_true, decide_false, hb]; (first | refine hK _ _ _ (by simp only [go_sem, Nat.reduceEqDiff, ↓reduceIte]; rfl) ?_ | refine ⟨_, hB, hK _ _ _ (by simp only [go_sem, Nat.reduceEqDiff, ↓reduceIte]; rfl) ?_⟩); clear hK; clear K) | (with_reducible first | refine rgn_nil (by first | trivial | kernel_rfl) ?_ | refine AWP.seq ?_ | refine tX hC hP (by kernel_rfl) ?_ | refine aX hC hM hP (by kernel_rfl) ?_ | refine AWP.skip ?_ | refine AWP.label ?_ | refine AWP.exit ?_ | refine AWP.block ?_ | refine cT (by simp only [go_sem, Nat.reduceEqDiff, ↓reduceIte]; with_reducible rfl) ?_ | refine cF (by simp only [go_sem, Nat.reduceEqDiff, ↓reduceIte]; with_reducible rfl) ?_) | simp only [qS, Nat.reduceEqDiff, ↓reduceIte]))
    (refine AWP.ret ?_; first | refine retOk1 (by simp only [go_sem, seval, ↓reduceIte, decide_true, decide_false]; rfl) ?_ | refine retOk2 (by simp only [go_sem, seval, ↓reduceIte, decide_true, decide_false]; rfl) (by simp only [go_sem, seval, ↓reduceIte, decide_true, decide_false]; rfl) (by simp) ?_ | refine retOk3 (by simp only [go_sem, seval, ↓reduceIte, decide_true, decide_false]; rfl) (by simp only [go_sem, seval, ↓reduceIte, decide_true, decide_false]; rfl) (by simp only [go_sem, seval, ↓reduceIte, decide_true, decide_false]; rfl) (by simp) ?_)
    rfl
end Go.Proofs.Ytmnkklkolngfoaa
