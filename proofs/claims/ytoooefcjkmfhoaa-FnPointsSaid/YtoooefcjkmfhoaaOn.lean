/-
  StructureOfCurve.
-/
import Derived.Test.YtoooefcjkmfhoaaOg
import Derived.Test.YtoooefcjkmfhoaaEe
import Derived.Test.YtoooefcjkmfhoaaRz
namespace Go.Proofs.Ytoooefcjkmfhoaa
open Go.RowKit
set_option linter.unusedSimpArgs false
set_option linter.unusedVariables false
set_option linter.unusedSectionVars false
set_option maxRecDepth 20000
-- StructureOfCurve.
theorem ptsI_has {p a b : Int} {x : Nat} (hx : (x : Int) < p) {acc : List (List Int)} (ha : ∀ l ∈ acc, hasB p a b l = true) : ∀ (y : Nat), (y : Int) ≤ p → ∀ l ∈ ptsI p a b x acc y, hasB p a b l = true
  | 0, _ => ha
  | y + 1, hy => by
    have ih := ptsI_has hx ha y (by omega)
    simp only [ptsI]
    split
    · rename_i e
      intro l hl
      rcases List.mem_append.1 hl with h | h
      · exact ih l h
      · rw [List.mem_singleton.1 h, has_xy hx (by omega)]
        simpa using e
    · exact ih
theorem ptsO_has {p a b : Int} : ∀ (x : Nat), (x : Int) ≤ p → ∀ l ∈ ptsO p a b x, hasB p a b l = true
  | 0, _ => by simp [ptsO, hasB]
  | x + 1, hx => ptsI_has (by omega) (ptsO_has x (by omega)) p.toNat (by omega)
theorem ptsL_has {p a b : Int} (h : 0 ≤ p) : ∀ l ∈ ptsL p a b, hasB p a b l = true := ptsO_has p.toNat (by omega)
/-- The greatest order among the first points. -/
def mostN (p a : Int) (l : List (List Int)) : Nat → Nat
  | 0 => 1
  | k + 1 => max (mostN p a l k) (ordN p a (l.getD k []) + 1)
theorem most_b {p a b : Int} (h : fieldB p = true) (hd : disc p a b ≠ 0) : ∀ k, k ≤ (ptsL p a b).length → 1 ≤ mostN p a (ptsL p a b) k ∧ mostN p a (ptsL p a b) k ≤ 10001
  | 0, _ => by simp [mostN]
  | k + 1, hk => by
    have ih := most_b h hd k (by omega)
    have hp := fieldB_facts h
    have hm : (ptsL p a b).getD k [] ∈ ptsL p a b := by
      rw [List.getD_eq_getElem?_getD, List.getElem?_eq_getElem (by omega), Option.getD_some]
      exact List.getElem_mem _
    have := (ordN_facts h hd (ptsL_has (by omega) _ hm)).1
    simp only [mostN]
    omega
theorem sizeL_takeO (ll : List (List Int)) (i : Nat) (h : i ≤ ll.length) : T.sizeL ((rowsO ll).take i) = i := by
  rw [show (rowsO ll).take i = rowsO (ll.take i) by simp [rowsO], rowsO_sizeL]; simp [h]
theorem imax (x y : Nat) : max (x : Int) (y : Int) = ((max x y : Nat) : Int) := by omega
set_option maxHeartbeats 2000000 in
theorem c_spec_StructureOfCurve_ok (p a b : Int) (h : codeE p a b = 0) : AFn Try.prog 21 [.int .i64 p, .int .i64 a, .int .i64 b] (.tup [.int .i64 ((ptsL p a b).length / mostN p a (ptsL p a b) (ptsL p a b).length : Nat), .int .i64 (mostN p a (ptsL p a b) (ptsL p a b).length : Nat), .int .i64 0]) := by
  refine AFn.of' ttOk (by decide) Try.func21 Try.ntmps21 (by rw [Try.results21]) (by rfl) (by rfl) (by simp) (by decide) (by simp only [go_sem, Nat.reduceAdd, ↓reduceIte]; rfl) mixed (fun C hP hM hC => ?_)
  have he := codeE_zero h
  have hk := CurveOk.of h
  have hL := ptsL_len hk
  have hB := c_spec_l18Code p a b
  rw [h] at hB
  (repeat (first | ((with_reducible refine rgn_cons rfl (fun K hK => ?_)); simp only [go_sem, seval, ↓reduceIte, decide_true, decide_false]; (first | refine hK _ _ _ (by simp only [go_sem, Nat.reduceEqDiff, ↓reduceIte]; rfl) ?_ | refine ⟨_, hB, hK _ _ _ (by simp only [go_sem, Nat.reduceEqDiff, ↓reduceIte]; rfl) ?_⟩ | refine ⟨_, c_spec_l18Points p a b hk, hK _ _ _ (by simp only [go_sem, Nat.reduceEqDiff, ↓reduceIte]; rfl) ?_⟩); clear hK; clear K) | (with_reducible first | refine rgn_nil (by first | trivial | kernel_rfl) ?_ | refine AWP.seq ?_ | refine tX hC hP (by kernel_rfl) ?_ | refine aX hC hM hP (by kernel_rfl) ?_ | refine AWP.skip ?_ | refine AWP.label ?_ | refine AWP.exit ?_ | refine AWP.block ?_ | refine cTa ?_ | refine cFa ?_) | simp only [qS, Nat.reduceEqDiff, ↓reduceIte]))
  refine AWP.loop (fun i : Nat => [(12, ⟨0, .val (.int .i64 i)⟩), (11, ⟨0, .val (.int .i64 (mostN p a (ptsL p a b) i : Nat))⟩), (10, ⟨1, .own (.sl true 37 (rowsO (ptsL p a b)))⟩), (0, ⟨0, .val (.int .i64 p)⟩), (1, ⟨0, .val (.int .i64 a)⟩), (2, ⟨0, .val (.int .i64 b)⟩)]) (fun i => i ≤ (ptsL p a b).length) (fun i => (ptsL p a b).length - i) 0 (Nat.zero_le _) (fun i => rfl) ?_ (fun i hi => ?_)
  · simp [Sub, lk, mostN]
  · have hb := most_b he.1 he.2.2.2.2.2.2.2 i hi
    by_cases hlt : i < (ptsL p a b).length
    · have hI : (i : Int) < ((ptsL p a b).length : Int) := by omega
      have hm : (ptsL p a b).getD i [] ∈ ptsL p a b := by
        rw [List.getD_eq_getElem?_getD, List.getElem?_eq_getElem hlt, Option.getD_some]
        exact List.getElem_mem _
      have hh := ptsL_has (by omega) _ hm
      have ho := ordN_facts he.1 he.2.2.2.2.2.2.2 hh
      have hA := c_spec_l18Order p a ((ptsL p a b).getD i []) (ordN p a ((ptsL p a b).getD i [])) hk.h5 hk.h97 hk.ha hk.ha2 (fun k => hasB_ok (itE_has he.1 hh k)) ho.1 ho.2.1 ho.2.2
      (repeat (first | ((with_reducible refine rgn_cons rfl (fun K hK => ?_)); simp only [go_sem, seval, ↓reduceIte, decide_true, decide_false, rowsO_get _ i hlt, sizeL_takeO _ i (Nat.le_of_lt hlt), Nat.mul_one, Int.toNat_natCast, Int.natCast_nonneg, hI, decide_true, wid ((i : Int) + 1) (by omega) (by omega)]; (first | refine hK _ _ _ (by simp only [go_sem, Nat.reduceEqDiff, ↓reduceIte]; rfl) ?_ | refine ⟨_, hA, hK _ _ _ (by simp only [go_sem, Nat.reduceEqDiff, ↓reduceIte]; rfl) ?_⟩); clear hK; clear K) | (with_reducible first | refine rgn_nil (by first | trivial | kernel_rfl) ?_ | refine AWP.seq ?_ | refine tX hC hP (by kernel_rfl) ?_ | refine aX hC hM hP (by kernel_rfl) ?_ | refine AWP.skip ?_ | refine AWP.label ?_ | refine AWP.exit ?_ | refine AWP.block ?_ | refine cTa ?_ | refine cFa ?_) | simp only [qS, Nat.reduceEqDiff, ↓reduceIte]))
      exact ⟨i + 1, by omega, by omega, by simp [Sub, lk, mostN]; split <;> omega⟩
    · have hI : ¬ (i : Int) < ((ptsL p a b).length : Int) := by omega
      have hie : i = (ptsL p a b).length := by omega
      subst hie
      (repeat (first | ((with_reducible refine rgn_cons rfl (fun K hK => ?_)); simp only [go_sem, seval, ↓reduceIte, decide_true, decide_false, hI, decide_false, show ((mostN p a (ptsL p a b) (ptsL p a b).length : Nat) : Int) ≠ 0 by omega, nat_tdiv, widN ((ptsL p a b).length / mostN p a (ptsL p a b) (ptsL p a b).length) (Nat.le_trans (Nat.div_le_self _ _) (by omega))]; (refine hK _ _ _ (by simp only [go_sem, Nat.reduceEqDiff, ↓reduceIte]; rfl) ?_); clear hK; clear K) | (with_reducible first | refine rgn_nil (by first | trivial | kernel_rfl) ?_ | refine AWP.seq ?_ | refine tX hC hP (by kernel_rfl) ?_ | refine aX hC hM hP (by kernel_rfl) ?_ | refine AWP.skip ?_ | refine AWP.label ?_ | refine AWP.exit ?_ | refine AWP.block ?_ | refine cTa ?_ | refine cFa ?_) | simp only [qS, Nat.reduceEqDiff, ↓reduceIte]))
      (refine AWP.ret ?_; refine retOk3 (by simp only [go_sem, seval, ↓reduceIte, decide_true, decide_false]; rfl) (by simp only [go_sem, seval, ↓reduceIte, decide_true, decide_false]; rfl) (by simp only [go_sem, seval, ↓reduceIte, decide_true, decide_false]; rfl) (by simp) ?_)
      rfl
set_option maxHeartbeats 2000000 in
theorem c_impl_StructureOfCurve_ok (p a b : Int) (h : codeE p a b = 0) : AFn Try.prog 16 [.int .i64 p, .int .i64 a, .int .i64 b] (.tup [.int .i64 ((ptsL p a b).length / mostN p a (ptsL p a b) (ptsL p a b).length : Nat), .int .i64 (mostN p a (ptsL p a b) (ptsL p a b).length : Nat), .int .i64 0]) := by
  refine AFn.of' ttOk (by decide) Try.func16 Try.ntmps16 (by rw [Try.results16]) (by rfl) (by rfl) (by simp) (by decide) (by simp only [go_sem, Nat.reduceAdd, ↓reduceIte]; rfl) mixed (fun C hP hM hC => ?_)
  have he := codeE_zero h
  have hk := CurveOk.of h
  have hL := ptsL_len hk
  have hB := c_impl_curveAt_nil p a b
  rw [h] at hB
  (repeat (first | ((with_reducible refine rgn_cons rfl (fun K hK => ?_)); simp only [go_sem, seval, ↓reduceIte, decide_true, decide_false]; (first | refine hK _ _ _ (by simp only [go_sem, Nat.reduceEqDiff, ↓reduceIte]; rfl) ?_ | refine ⟨_, hB, hK _ _ _ (by simp only [go_sem, Nat.reduceEqDiff, ↓reduceIte]; rfl) ?_⟩ | refine ⟨_, c_impl_elliptic_points p a b hk, hK _ _ _ (by simp only [go_sem, Nat.reduceEqDiff, ↓reduceIte]; rfl) ?_⟩); clear hK; clear K) | (with_reducible first | refine rgn_nil (by first | trivial | kernel_rfl) ?_ | refine AWP.seq ?_ | refine tX hC hP (by kernel_rfl) ?_ | refine aX hC hM hP (by kernel_rfl) ?_ | refine AWP.skip ?_ | refine AWP.label ?_ | refine AWP.exit ?_ | refine AWP.block ?_ | refine cTa ?_ | refine cFa ?_) | simp only [qS, Nat.reduceEqDiff, ↓reduceIte]))
  refine AWP.loop (fun i : Nat => [(29, ⟨0, .val (.int .i64 i)⟩), (28, ⟨0, .val (.int .i64 ((ptsL p a b).length))⟩), (12, ⟨0, .val (.int .i64 (mostN p a (ptsL p a b) i : Nat))⟩), (11, ⟨1, .own (.sl true 37 (rowsO (ptsL p a b)))⟩), (27, ⟨0, .val (.ref 11 1 [])⟩), (9, ⟨2, .own (.box 56 (.agg [.int .i64 p, .int .i64 a, .int .i64 b]))⟩)]) (fun i => i ≤ (ptsL p a b).length) (fun i => (ptsL p a b).length - i) 0 (Nat.zero_le _) (fun i => rfl) ?_ (fun i hi => ?_)
  · simp [Sub, lk, mostN]
  · have hb := most_b he.1 he.2.2.2.2.2.2.2 i hi
    by_cases hlt : i < (ptsL p a b).length
    · have hI : (i : Int) < ((ptsL p a b).length : Int) := by omega
      have hm : (ptsL p a b).getD i [] ∈ ptsL p a b := by
        rw [List.getD_eq_getElem?_getD, List.getElem?_eq_getElem hlt, Option.getD_some]
        exact List.getElem_mem _
      have hh := ptsL_has (by omega) _ hm
      have ho := ordN_facts he.1 he.2.2.2.2.2.2.2 hh
      have hA := c_impl_elliptic_order p a b ((ptsL p a b).getD i []) (ordN p a ((ptsL p a b).getD i [])) hk.h5 hk.h97 hk.ha hk.ha2 (fun k => hasB_ok (itE_has he.1 hh k)) ho.1 ho.2.1 ho.2.2
      (repeat (first | ((with_reducible refine rgn_cons rfl (fun K hK => ?_)); simp only [go_sem, seval, ↓reduceIte, decide_true, decide_false, rowsO_get _ i hlt, sizeL_takeO _ i (Nat.le_of_lt hlt), Nat.mul_one, Int.toNat_natCast, Int.natCast_nonneg, hI, decide_true, wid ((i : Int) + 1) (by omega) (by omega)]; (first | refine hK _ _ _ (by simp only [go_sem, Nat.reduceEqDiff, ↓reduceIte]; rfl) ?_ | refine ⟨_, hA, hK _ _ _ (by simp only [go_sem, Nat.reduceEqDiff, ↓reduceIte]; rfl) ?_⟩); clear hK; clear K) | (with_reducible first | refine rgn_nil (by first | trivial | kernel_rfl) ?_ | refine AWP.seq ?_ | refine tX hC hP (by kernel_rfl) ?_ | refine aX hC hM hP (by kernel_rfl) ?_ | refine AWP.skip ?_ | refine AWP.label ?_ | refine AWP.exit ?_ | refine AWP.block ?_ | refine cTa ?_ | refine cFa ?_) | simp only [qS, Nat.reduceEqDiff, ↓reduceIte]))
      exact ⟨i + 1, by omega, by omega, by simp [Sub, lk, mostN]; split <;> omega⟩
    · have hI : ¬ (i : Int) < ((ptsL p a b).length : Int) := by omega
      have hie : i = (ptsL p a b).length := by omega
      subst hie
      (repeat (first | ((with_reducible refine rgn_cons rfl (fun K hK => ?_)); simp only [go_sem, seval, ↓reduceIte, decide_true, decide_false, hI, decide_false, show ((mostN p a (ptsL p a b) (ptsL p a b).length : Nat) : Int) ≠ 0 by omega, nat_tdiv, widN ((ptsL p a b).length / mostN p a (ptsL p a b) (ptsL p a b).length) (Nat.le_trans (Nat.div_le_self _ _) (by omega))]; (refine hK _ _ _ (by simp only [go_sem, Nat.reduceEqDiff, ↓reduceIte]; rfl) ?_); clear hK; clear K) | (with_reducible first | refine rgn_nil (by first | trivial | kernel_rfl) ?_ | refine AWP.seq ?_ | refine tX hC hP (by kernel_rfl) ?_ | refine aX hC hM hP (by kernel_rfl) ?_ | refine AWP.skip ?_ | refine AWP.label ?_ | refine AWP.exit ?_ | refine AWP.block ?_ | refine cTa ?_ | refine cFa ?_) | simp only [qS, Nat.reduceEqDiff, ↓reduceIte]))
      (refine AWP.ret ?_; refine retOk3 (by simp only [go_sem, seval, ↓reduceIte, decide_true, decide_false]; rfl) (by simp only [go_sem, seval, ↓reduceIte, decide_true, decide_false]; rfl) (by simp only [go_sem, seval, ↓reduceIte, decide_true, decide_false]; rfl) (by simp) ?_)
      rfl
set_option maxHeartbeats 1000000 in
theorem c_spec_StructureOfCurve_no (p a b : Int) (h : ¬ codeE p a b = 0) : AFn Try.prog 21 [.int .i64 p, .int .i64 a, .int .i64 b] (.tup [.int .i64 0, .int .i64 0, .int .i64 (codeE p a b)]) := by
  refine AFn.of' ttOk (by decide) Try.func21 Try.ntmps21 (by rw [Try.results21]) (by rfl) (by rfl) (by simp) (by decide) (by simp only [go_sem, Nat.reduceAdd, ↓reduceIte]; rfl) mixed (fun C hP hM hC => ?_)
  (repeat (first | ((with_reducible refine rgn_cons rfl (fun K hK => ?_)); simp only [go_sem, seval, ↓reduceIte, decide_true, decide_false, show (codeE p a b != 0) = true by simpa using h]; (first | refine hK _ _ _ (by simp only [go_sem, Nat.reduceEqDiff, ↓reduceIte]; rfl) ?_ | refine ⟨_, c_spec_l18Code p a b, hK _ _ _ (by simp only [go_sem, Nat.reduceEqDiff, ↓reduceIte]; rfl) ?_⟩); clear hK; clear K) | (with_reducible first | refine rgn_nil (by first | trivial | kernel_rfl) ?_ | refine AWP.seq ?_ | refine tX hC hP (by kernel_rfl) ?_ | refine aX hC hM hP (by kernel_rfl) ?_ | refine AWP.skip ?_ | refine AWP.label ?_ | refine AWP.exit ?_ | refine AWP.block ?_ | refine cTa ?_ | refine cFa ?_) | simp only [qS, Nat.reduceEqDiff, ↓reduceIte]))
  (refine AWP.ret ?_; refine retOk3 (by simp only [go_sem, seval, ↓reduceIte, decide_true, decide_false]; rfl) (by simp only [go_sem, seval, ↓reduceIte, decide_true, decide_false]; rfl) (by simp only [go_sem, seval, ↓reduceIte, decide_true, decide_false]; rfl) (by simp) ?_)
  rfl
set_option maxHeartbeats 1000000 in
theorem c_impl_StructureOfCurve_no (p a b : Int) (h : ¬ codeE p a b = 0) : AFn Try.prog 16 [.int .i64 p, .int .i64 a, .int .i64 b] (.tup [.int .i64 0, .int .i64 0, .int .i64 (codeE p a b)]) := by
  refine AFn.of' ttOk (by decide) Try.func16 Try.ntmps16 (by rw [Try.results16]) (by rfl) (by rfl) (by simp) (by decide) (by simp only [go_sem, Nat.reduceAdd, ↓reduceIte]; rfl) mixed (fun C hP hM hC => ?_)
  (repeat (first | ((with_reducible refine rgn_cons rfl (fun K hK => ?_)); simp only [go_sem, seval, ↓reduceIte, decide_true, decide_false, show (codeE p a b != 0) = true by simpa using h]; (first | refine hK _ _ _ (by simp only [go_sem, Nat.reduceEqDiff, ↓reduceIte]; rfl) ?_ | refine ⟨_, c_impl_curveAt_nil p a b, hK _ _ _ (by simp only [go_sem, Nat.reduceEqDiff, ↓reduceIte]; rfl) ?_⟩); clear hK; clear K) | (with_reducible first | refine rgn_nil (by first | trivial | kernel_rfl) ?_ | refine AWP.seq ?_ | refine tX hC hP (by kernel_rfl) ?_ | refine aX hC hM hP (by kernel_rfl) ?_ | refine AWP.skip ?_ | refine AWP.label ?_ | refine AWP.exit ?_ | refine AWP.block ?_ | refine cTa ?_ | refine cFa ?_) | simp only [qS, Nat.reduceEqDiff, ↓reduceIte]))
  (refine AWP.ret ?_; refine retOk3 (by simp only [go_sem, seval, ↓reduceIte, decide_true, decide_false]; rfl) (by simp only [go_sem, seval, ↓reduceIte, decide_true, decide_false]; rfl) (by simp only [go_sem, seval, ↓reduceIte, decide_true, decide_false]; rfl) (by simp) ?_)
  rfl
def stA (p a b : Int) : Int := if codeE p a b = 0 then (((ptsL p a b).length / mostN p a (ptsL p a b) (ptsL p a b).length : Nat) : Int) else 0
def stB (p a b : Int) : Int := if codeE p a b = 0 then ((mostN p a (ptsL p a b) (ptsL p a b).length : Nat) : Int) else 0
theorem c_spec_StructureOfCurve (p a b : Int) : AFn Try.prog 21 [.int .i64 p, .int .i64 a, .int .i64 b] (.tup [.int .i64 (stA p a b), .int .i64 (stB p a b), .int .i64 (codeE p a b)]) := by
  by_cases h : codeE p a b = 0
  · have := c_spec_StructureOfCurve_ok p a b h
    rw [stA, stB, if_pos h, if_pos h, h]; exact this
  · have := c_spec_StructureOfCurve_no p a b h
    rw [stA, stB, if_neg h, if_neg h]; exact this
theorem c_impl_StructureOfCurve (p a b : Int) : AFn Try.prog 16 [.int .i64 p, .int .i64 a, .int .i64 b] (.tup [.int .i64 (stA p a b), .int .i64 (stB p a b), .int .i64 (codeE p a b)]) := by
  by_cases h : codeE p a b = 0
  · have := c_impl_StructureOfCurve_ok p a b h
    rw [stA, stB, if_pos h, if_pos h, h]; exact this
  · have := c_impl_StructureOfCurve_no p a b h
    rw [stA, stB, if_neg h, if_neg h]; exact this
end Go.Proofs.Ytoooefcjkmfhoaa
