/-
  The program's isomorphism.
-/
import Derived.Test.YtahnnangdepkbabIf
import Derived.Test.YtahnnangdepkbabHz
namespace Go.Proofs.Ytahnnangdepkbab
open Go.RowKit
set_option linter.unusedSimpArgs false
set_option linter.unusedVariables false
set_option linter.unusedSectionVars false
set_option maxRecDepth 20000
-- The program's isomorphism.
/-- The first one. -/
def isoF (M K : Nat) (tf tg : Nat → Nat → Int) : Option (List Int) := (al M K []).find? (isoB M K tf tg)
set_option maxHeartbeats 4000000 in
theorem c_impl_homomorphisms (M K : Nat) (lf lg : List (List Int)) (hm : 1 < M) (hm2 : M ≤ 10000) (hK : 1 ≤ K) (hK2 : K ≤ 900) (hf : Pl (M : Int) (K + 1) lf) (hg : Pl (M : Int) (K + 1) lg) : AFn Try.prog 20 [.agg [.int .i64 (M : Int), .sl false 26 (rowsF lf)], .agg [.int .i64 (M : Int), .sl false 26 (rowsF lg)], .bool true, .fn 21 []] (.sl true 28 (cuS M (isoF M K (pc lf) (pc lg)))) := by
  refine AFn.of' ttOk (by decide) Try.func20 Try.ntmps20 (by rw [Try.results20]) (by rfl) (by rfl) (by simp) (by decide) (by simp only [go_sem, Nat.reduceAdd, ↓reduceIte]; rfl) mixed (fun C hP hM hC => ?_)
  refine AWP.tailK 2 [(4, ⟨1, .own (.box 31 (.agg [.int .i64 (M : Int), .sl false 26 (rowsF lf)]))⟩), (5, ⟨1, .own (.box 31 (.agg [.int .i64 (M : Int), .sl false 26 (rowsF lg)]))⟩), (6, ⟨1, .own (.box 4 (.bool true))⟩), (7, ⟨1, .own (.box 48 (.fn 21 []))⟩), (9, ⟨2, .own (.box 46 (.sl true 28 []))⟩)] ?_ (fun R tail => ?_)
  · simp only [seqD]
    refine AWP.frz (s := 7) rfl ?_
    refine AWP.frz (s := 6) rfl ?_
    refine AWP.frz (s := 5) rfl ?_
    refine AWP.frz (s := 4) rfl ?_
    simp only [go_sem]
    have hcv := c_impl_curves M K lf lg hm hm2 hK hK2 hf hg K 0 (tab K (fun _ => 0)) (tab_length _ _) (by omega) (fun z hz => by
      obtain ⟨i, _, rfl⟩ := mem_tab.1 hz
      omega) (isoF M K (pc lf) (pc lg)) (by rw [List.take_zero, isoF])
    simp only [List.take_zero, List.nil_append, Nat.zero_add, Int.natCast_zero, Int.natCast_one] at hcv
    have hzr : tab (K + 1) (fun _ => (0 : Int)) = 0 :: tab K (fun _ => 0) := by
      rw [tab, tab, List.range_succ_eq_map, List.map_cons, List.map_map]; rfl
    have hZ := c_impl_zero (M : Int) (K : Int) (K + 1) (by omega) (by omega)
    rw [hzr] at hZ
    have hD := c_impl_Plane_degree (M : Int) lf (by rw [hf.len]; omega)
    rw [hf.len, show ((K + 1 : Nat) : Int) - 1 = (K : Int) by omega] at hD
    cases hr : isoF M K (pc lf) (pc lg) with
    | none =>
      rw [hr] at hcv
      simp only [cuS, cuL, Option.isNone_none] at hcv ⊢
      (repeat (first | ((with_reducible refine rgn_cons rfl (fun K hK => ?_)); simp only [go_sem, seval, ↓reduceIte, decide_true, decide_false]; (first | refine hK _ _ _ (by simp only [go_sem, Nat.reduceEqDiff, ↓reduceIte]; rfl) ?_ | refine ⟨_, hD, hK _ _ _ (by simp only [go_sem, Nat.reduceEqDiff, ↓reduceIte]; rfl) ?_⟩ | refine ⟨_, hZ, hK _ _ _ (by simp only [go_sem, Nat.reduceEqDiff, ↓reduceIte]; rfl) ?_⟩ | refine ⟨_, hcv, hK _ _ _ (by simp only [go_sem, Nat.reduceEqDiff, ↓reduceIte]; rfl) ?_⟩); clear hK; clear K) | (with_reducible first | refine rgn_nil (by first | trivial | kernel_rfl) ?_ | refine AWP.seq ?_ | refine tX hC hP (by kernel_rfl) ?_ | refine aX hC hM hP (by kernel_rfl) ?_ | refine AWP.skip ?_ | refine AWP.label ?_ | refine AWP.exit ?_ | refine AWP.block ?_ | refine cTa ?_ | refine cFa ?_) | simp only [qS, Nat.reduceEqDiff, ↓reduceIte]))
      (refine AWP.ret ?_; refine retOk1 (by simp only [go_sem, seval, ↓reduceIte, decide_true, decide_false]; rfl) ?_)
      rfl
    | some h =>
      rw [hr] at hcv
      simp only [cuS, cuL, Option.isNone_some] at hcv ⊢
      (repeat (first | ((with_reducible refine rgn_cons rfl (fun K hK => ?_)); simp only [go_sem, seval, ↓reduceIte, decide_true, decide_false]; (first | refine hK _ _ _ (by simp only [go_sem, Nat.reduceEqDiff, ↓reduceIte]; rfl) ?_ | refine ⟨_, hD, hK _ _ _ (by simp only [go_sem, Nat.reduceEqDiff, ↓reduceIte]; rfl) ?_⟩ | refine ⟨_, hZ, hK _ _ _ (by simp only [go_sem, Nat.reduceEqDiff, ↓reduceIte]; rfl) ?_⟩ | refine ⟨_, hcv, hK _ _ _ (by simp only [go_sem, Nat.reduceEqDiff, ↓reduceIte]; rfl) ?_⟩); clear hK; clear K) | (with_reducible first | refine rgn_nil (by first | trivial | kernel_rfl) ?_ | refine AWP.seq ?_ | refine tX hC hP (by kernel_rfl) ?_ | refine aX hC hM hP (by kernel_rfl) ?_ | refine AWP.skip ?_ | refine AWP.label ?_ | refine AWP.exit ?_ | refine AWP.block ?_ | refine cTa ?_ | refine cFa ?_) | simp only [qS, Nat.reduceEqDiff, ↓reduceIte]))
      (refine AWP.ret ?_; refine retOk1 (by simp only [go_sem, seval, ↓reduceIte, decide_true, decide_false]; rfl) ?_)
      rfl
  · simp only [seqP]
    (repeat (first | ((with_reducible refine rgn_cons rfl (fun K hK => ?_)); simp only [go_sem, seval, ↓reduceIte, decide_true, decide_false]; (refine hK _ _ _ (by simp only [go_sem, Nat.reduceEqDiff, ↓reduceIte]; rfl) ?_); clear hK; clear K) | (with_reducible first | refine rgn_nil (by first | trivial | kernel_rfl) ?_ | refine AWP.seq ?_ | refine tX hC hP (by kernel_rfl) ?_ | refine aX hC hM hP (by kernel_rfl) ?_ | refine AWP.skip ?_ | refine AWP.label ?_ | refine AWP.exit ?_ | refine AWP.block ?_ | refine cTa ?_ | refine cFa ?_) | simp only [qS, Nat.reduceEqDiff, ↓reduceIte]))
    refine AWP.sub ?_ (by rfl) tail
    simp [Sub, lk]
/-- The code. -/
noncomputable def isoC (m : Int) (la : List (List Int)) (n : Int) (lb : List (List Int)) : Int := if twC m la n lb = 0 then (if szM m.toNat (la.length - 1) 20000 = 20001 then 3 else if (isoF m.toNat (la.length - 1) (pc la) (pc lb)).isNone = true then 4 else 0) else twC m la n lb
def isoV (m : Int) (la lb : List (List Int)) : List Int := 0 :: (isoF m.toNat (la.length - 1) (pc la) (pc lb)).getD []
theorem isoC_zero {m n : Int} {la lb : List (List Int)} (h : isoC m la n lb = 0) : twC m la n lb = 0 ∧ szM m.toNat (la.length - 1) 20000 ≠ 20001 ∧ ∃ x, isoF m.toNat (la.length - 1) (pc la) (pc lb) = some x := by
  unfold isoC at h
  split at h
  · rename_i h1
    split at h
    · cases h
    · rename_i h2
      split at h
      · cases h
      · rename_i h3
        cases hx : isoF m.toNat (la.length - 1) (pc la) (pc lb) with
        | none => rw [hx] at h3; exact absurd rfl h3
        | some x => exact ⟨h1, h2, x, rfl⟩
  · rename_i h1; exact absurd h h1
theorem isoV_len {m n : Int} {la lb : List (List Int)} (h : isoC m la n lb = 0) : (isoV m la lb).length = la.length := by
  obtain ⟨h1, _, x, hx⟩ := isoC_zero h
  have hl := isPl_of (lawB_of (twC_zero h1).1).1
  obtain ⟨h2, _⟩ := al_mem _ _ _ (List.mem_of_find?_eq_some (show (al m.toNat (la.length - 1) []).find? _ = some x from hx))
  rw [isoV, hx]
  simp only [Option.getD_some, List.length_cons, List.length_nil] at h2 ⊢
  omega
set_option maxHeartbeats 1000000 in
theorem c_impl_searchable (m n : Int) (la lb : List (List Int)) (k : Nat) (ha : Sm la) (hb : Sm lb) (hk : k ≤ 1000) : AFn Try.prog 18 [.agg [.int .i64 m, .sl false 26 (rowsF la)], .agg [.int .i64 n, .sl false 26 (rowsF lb)], .int .i64 k] (.int .i64 (if twC m la n lb = 0 then (if szM m.toNat k 20000 = 20001 then 3 else 0) else twC m la n lb)) := by
  refine AFn.of' ttOk (by decide) Try.func18 Try.ntmps18 (by rw [Try.results18]) (by rfl) (by rfl) (by simp) (by decide) (by simp only [go_sem, Nat.reduceAdd, ↓reduceIte]; rfl) mixed (fun C hP hM hC => ?_)
  have hA := c_impl_bothLaws m n la lb ha hb
  by_cases h : twC m la n lb = 0
  · obtain ⟨l1, l2, hmn, hll⟩ := twC_zero h
    have hl := isPl_of (lawB_of l1).1
    obtain ⟨M, rfl⟩ := Int.eq_ofNat_of_zero_le (show 0 ≤ m by omega)
    have hB := c_impl_countAtMost M k 20000 (by omega) (by omega) hk (by omega) (by omega)
    rw [h, if_pos rfl, Int.toNat_natCast]
    rw [h] at hA
    by_cases hq : szM M k 20000 = 20001
    · rw [hq] at hB
      rw [if_pos hq]
      (repeat (first | ((with_reducible refine rgn_cons rfl (fun K hK => ?_)); simp only [go_sem, seval, ↓reduceIte, decide_true, decide_false, show ((0 : Int) != 0) = false from rfl, show ((20001 : Nat) : Int) > 20000 by omega, show (20000 : Int) < ((20001 : Nat) : Int) by omega, decide_true]; (first | refine hK _ _ _ (by simp only [go_sem, Nat.reduceEqDiff, ↓reduceIte]; rfl) ?_ | refine ⟨_, hA, hK _ _ _ (by simp only [go_sem, Nat.reduceEqDiff, ↓reduceIte]; rfl) ?_⟩ | refine ⟨_, hB, hK _ _ _ (by simp only [go_sem, Nat.reduceEqDiff, ↓reduceIte]; rfl) ?_⟩); clear hK; clear K) | (with_reducible first | refine rgn_nil (by first | trivial | kernel_rfl) ?_ | refine AWP.seq ?_ | refine tX hC hP (by kernel_rfl) ?_ | refine aX hC hM hP (by kernel_rfl) ?_ | refine AWP.skip ?_ | refine AWP.label ?_ | refine AWP.exit ?_ | refine AWP.block ?_ | refine cTa ?_ | refine cFa ?_) | simp only [qS, Nat.reduceEqDiff, ↓reduceIte]))
      (refine AWP.ret ?_; refine retOk1 (by simp only [go_sem, seval, ↓reduceIte, decide_true, decide_false]; rfl) ?_)
      rfl
    · have h2 : szM M k 20000 ≤ 20000 := by
        unfold szM at hq ⊢
        split <;> rename_i h9
        · exact h9
        · rw [if_neg h9] at hq; omega
      have h4 : ¬ (20000 : Int) < ((szM M k 20000 : Nat) : Int) := by omega
      rw [if_neg hq]
      (repeat (first | ((with_reducible refine rgn_cons rfl (fun K hK => ?_)); simp only [go_sem, seval, ↓reduceIte, decide_true, decide_false, show ((0 : Int) != 0) = false from rfl, h4, decide_false]; (first | refine hK _ _ _ (by simp only [go_sem, Nat.reduceEqDiff, ↓reduceIte]; rfl) ?_ | refine ⟨_, hA, hK _ _ _ (by simp only [go_sem, Nat.reduceEqDiff, ↓reduceIte]; rfl) ?_⟩ | refine ⟨_, hB, hK _ _ _ (by simp only [go_sem, Nat.reduceEqDiff, ↓reduceIte]; rfl) ?_⟩); clear hK; clear K) | (with_reducible first | refine rgn_nil (by first | trivial | kernel_rfl) ?_ | refine AWP.seq ?_ | refine tX hC hP (by kernel_rfl) ?_ | refine aX hC hM hP (by kernel_rfl) ?_ | refine AWP.skip ?_ | refine AWP.label ?_ | refine AWP.exit ?_ | refine AWP.block ?_ | refine cTa ?_ | refine cFa ?_) | simp only [qS, Nat.reduceEqDiff, ↓reduceIte]))
      (refine AWP.ret ?_; refine retOk1 (by simp only [go_sem, seval, ↓reduceIte, decide_true, decide_false]; rfl) ?_)
      rfl
  · rw [if_neg h]
    (repeat (first | ((with_reducible refine rgn_cons rfl (fun K hK => ?_)); simp only [go_sem, seval, ↓reduceIte, decide_true, decide_false, show (twC m la n lb != 0) = true by rw [bne_iff_ne]; exact h]; (first | refine hK _ _ _ (by simp only [go_sem, Nat.reduceEqDiff, ↓reduceIte]; rfl) ?_ | refine ⟨_, hA, hK _ _ _ (by simp only [go_sem, Nat.reduceEqDiff, ↓reduceIte]; rfl) ?_⟩); clear hK; clear K) | (with_reducible first | refine rgn_nil (by first | trivial | kernel_rfl) ?_ | refine AWP.seq ?_ | refine tX hC hP (by kernel_rfl) ?_ | refine aX hC hM hP (by kernel_rfl) ?_ | refine AWP.skip ?_ | refine AWP.label ?_ | refine AWP.exit ?_ | refine AWP.block ?_ | refine cTa ?_ | refine cFa ?_) | simp only [qS, Nat.reduceEqDiff, ↓reduceIte]))
    (refine AWP.ret ?_; refine retOk1 (by simp only [go_sem, seval, ↓reduceIte, decide_true, decide_false]; rfl) ?_)
    rfl
set_option maxHeartbeats 1000000 in
theorem c_impl_searchable_no (m n : Int) (la lb : List (List Int)) (k : Int) (ha : Sm la) (hb : Sm lb) (h : twC m la n lb ≠ 0) : AFn Try.prog 18 [.agg [.int .i64 m, .sl false 26 (rowsF la)], .agg [.int .i64 n, .sl false 26 (rowsF lb)], .int .i64 k] (.int .i64 (twC m la n lb)) := by
  refine AFn.of' ttOk (by decide) Try.func18 Try.ntmps18 (by rw [Try.results18]) (by rfl) (by rfl) (by simp) (by decide) (by simp only [go_sem, Nat.reduceAdd, ↓reduceIte]; rfl) mixed (fun C hP hM hC => ?_)
  have hA := c_impl_bothLaws m n la lb ha hb
  (repeat (first | ((with_reducible refine rgn_cons rfl (fun K hK => ?_)); simp only [go_sem, seval, ↓reduceIte, decide_true, decide_false, show (twC m la n lb != 0) = true by rw [bne_iff_ne]; exact h]; (first | refine hK _ _ _ (by simp only [go_sem, Nat.reduceEqDiff, ↓reduceIte]; rfl) ?_ | refine ⟨_, hA, hK _ _ _ (by simp only [go_sem, Nat.reduceEqDiff, ↓reduceIte]; rfl) ?_⟩); clear hK; clear K) | (with_reducible first | refine rgn_nil (by first | trivial | kernel_rfl) ?_ | refine AWP.seq ?_ | refine tX hC hP (by kernel_rfl) ?_ | refine aX hC hM hP (by kernel_rfl) ?_ | refine AWP.skip ?_ | refine AWP.label ?_ | refine AWP.exit ?_ | refine AWP.block ?_ | refine cTa ?_ | refine cFa ?_) | simp only [qS, Nat.reduceEqDiff, ↓reduceIte]))
  (refine AWP.ret ?_; refine retOk1 (by simp only [go_sem, seval, ↓reduceIte, decide_true, decide_false]; rfl) ?_)
  rfl
set_option maxHeartbeats 1000000 in
theorem c_impl_IsomorphismOf_ok (m n : Int) (la lb : List (List Int)) (ha : Sm la) (hb : Sm lb) (hc : isoC m la n lb = 0) : AFn Try.prog 7 [.agg [.int .i64 m, .sl false 26 (rowsF la)], .agg [.int .i64 n, .sl false 26 (rowsF lb)]] (.tup [.agg [.int .i64 m, .sl true 2 (intL (isoV m la lb))], .int .i64 0]) := by
  refine AFn.of' ttOk (by decide) Try.func7 Try.ntmps7 (by rw [Try.results7]) (by rfl) (by rfl) (by simp) (by decide) (by simp only [go_sem, Nat.reduceAdd, ↓reduceIte]; rfl) mixed (fun C hP hM hC => ?_)
  obtain ⟨h1, h2, x, hx⟩ := isoC_zero hc
  obtain ⟨l1, l2, hmn, hll⟩ := twC_zero h1
  have hl := isPl_of (lawB_of l1).1
  have hl2 := isPl_of (lawB_of l2).1
  obtain ⟨M, rfl⟩ := Int.eq_ofNat_of_zero_le (show 0 ≤ m by omega)
  obtain ⟨K, hK⟩ : ∃ K, la.length = K + 1 := ⟨la.length - 1, by omega⟩
  subst hmn
  have hD := c_impl_Plane_degree (M : Int) la (by omega)
  rw [hK, show ((K + 1 : Nat) : Int) - 1 = (K : Int) by omega] at hD
  have hS := c_impl_searchable (M : Int) (M : Int) la lb K ha hb (by omega)
  rw [hK, Nat.add_sub_cancel] at h2
  rw [if_pos h1, if_neg h2] at hS
  rw [Int.toNat_natCast, hK, Nat.add_sub_cancel] at hx
  have hH := c_impl_homomorphisms M K la lb (by omega) (by omega) (by omega) (by omega) (by rw [← hK]; exact hl.2.2.2.2) (by rw [← hK, hll]; exact hl2.2.2.2.2)
  rw [hx] at hH
  simp only [cuS] at hH
  have hV : isoV (M : Int) la lb = 0 :: x := by rw [isoV, Int.toNat_natCast, hK, Nat.add_sub_cancel, hx]; rfl
  rw [hV]
  (repeat (first | ((with_reducible refine rgn_cons rfl (fun K hK => ?_)); simp only [go_sem, seval, ↓reduceIte, decide_true, decide_false, show ((0 : Int) != 0) = false from rfl, List.length_cons, List.length_nil, show (((0 + 1 : Nat) : Int) == 0) = false from rfl, show ((1 : Int) == 0) = false from rfl, Int.le_refl, Int.toNat_zero, show (0 : Int) < ((0 + 1 : Nat) : Int) by omega, show (0 : Int) < 1 by omega, List.take_zero, Nat.zero_mul]; (first | refine hK _ _ _ (by simp only [go_sem, Nat.reduceEqDiff, ↓reduceIte]; rfl) ?_ | refine ⟨_, hD, hK _ _ _ (by simp only [go_sem, Nat.reduceEqDiff, ↓reduceIte]; rfl) ?_⟩ | refine ⟨_, hS, hK _ _ _ (by simp only [go_sem, Nat.reduceEqDiff, ↓reduceIte]; rfl) ?_⟩ | refine ⟨_, hH, hK _ _ _ (by simp only [go_sem, Nat.reduceEqDiff, ↓reduceIte]; rfl) ?_⟩); clear hK; clear K) | (with_reducible first | refine rgn_nil (by first | trivial | kernel_rfl) ?_ | refine AWP.seq ?_ | refine tX hC hP (by kernel_rfl) ?_ | refine aX hC hM hP (by kernel_rfl) ?_ | refine AWP.skip ?_ | refine AWP.label ?_ | refine AWP.exit ?_ | refine AWP.block ?_ | refine cTa ?_ | refine cFa ?_) | simp only [qS, Nat.reduceEqDiff, ↓reduceIte]))
  (refine AWP.ret ?_; refine retOk2 (by simp only [go_sem, seval, ↓reduceIte, decide_true, decide_false]; rfl) (by simp only [go_sem, seval, ↓reduceIte, decide_true, decide_false]; rfl) (by simp) ?_)
  rfl
set_option maxHeartbeats 1000000 in
theorem c_impl_IsomorphismOf_no (m n : Int) (la lb : List (List Int)) (ha : Sm la) (hb : Sm lb) (hc : isoC m la n lb ≠ 0) : AFn Try.prog 7 [.agg [.int .i64 m, .sl false 26 (rowsF la)], .agg [.int .i64 n, .sl false 26 (rowsF lb)]] (.tup [.agg [.int .i64 0, .nil], .int .i64 (isoC m la n lb)]) := by
  refine AFn.of' ttOk (by decide) Try.func7 Try.ntmps7 (by rw [Try.results7]) (by rfl) (by rfl) (by simp) (by decide) (by simp only [go_sem, Nat.reduceAdd, ↓reduceIte]; rfl) mixed (fun C hP hM hC => ?_)
  have hD := c_impl_Plane_degree m la (by have := ha.1; omega)
  by_cases h1 : twC m la n lb = 0
  · obtain ⟨l1, l2, hmn, hll⟩ := twC_zero h1
    have hl := isPl_of (lawB_of l1).1
    have hl2 := isPl_of (lawB_of l2).1
    obtain ⟨M, rfl⟩ := Int.eq_ofNat_of_zero_le (show 0 ≤ m by omega)
    obtain ⟨K, hK⟩ : ∃ K, la.length = K + 1 := ⟨la.length - 1, by omega⟩
    subst hmn
    rw [hK, show ((K + 1 : Nat) : Int) - 1 = (K : Int) by omega] at hD
    have hS := c_impl_searchable (M : Int) (M : Int) la lb K ha hb (by omega)
    rw [if_pos h1] at hS
    have hcE : isoC (M : Int) la (M : Int) lb = if szM M K 20000 = 20001 then 3 else if (isoF M K (pc la) (pc lb)).isNone = true then 4 else 0 := by
      rw [isoC, if_pos h1, Int.toNat_natCast, hK, Nat.add_sub_cancel]
    rw [Int.toNat_natCast] at hS
    by_cases h2 : szM M K 20000 = 20001
    · rw [if_pos h2] at hS hcE
      rw [hcE]
      (repeat (first | ((with_reducible refine rgn_cons rfl (fun K hK => ?_)); simp only [go_sem, seval, ↓reduceIte, decide_true, decide_false, show ((3 : Int) != 0) = true from rfl]; (first | refine hK _ _ _ (by simp only [go_sem, Nat.reduceEqDiff, ↓reduceIte]; rfl) ?_ | refine ⟨_, hD, hK _ _ _ (by simp only [go_sem, Nat.reduceEqDiff, ↓reduceIte]; rfl) ?_⟩ | refine ⟨_, hS, hK _ _ _ (by simp only [go_sem, Nat.reduceEqDiff, ↓reduceIte]; rfl) ?_⟩); clear hK; clear K) | (with_reducible first | refine rgn_nil (by first | trivial | kernel_rfl) ?_ | refine AWP.seq ?_ | refine tX hC hP (by kernel_rfl) ?_ | refine aX hC hM hP (by kernel_rfl) ?_ | refine AWP.skip ?_ | refine AWP.label ?_ | refine AWP.exit ?_ | refine AWP.block ?_ | refine cTa ?_ | refine cFa ?_) | simp only [qS, Nat.reduceEqDiff, ↓reduceIte]))
      (refine AWP.ret ?_; refine retOk2 (by simp only [go_sem, seval, ↓reduceIte, decide_true, decide_false]; rfl) (by simp only [go_sem, seval, ↓reduceIte, decide_true, decide_false]; rfl) (by simp) ?_)
      rfl
    · rw [if_neg h2] at hS hcE
      have hx : isoF M K (pc la) (pc lb) = none := by
        cases hx : isoF M K (pc la) (pc lb) with
        | none => rfl
        | some x =>
          rw [hx] at hcE
          exact absurd hcE hc
      rw [hx] at hcE
      have hH := c_impl_homomorphisms M K la lb (by omega) (by omega) (by omega) (by omega) (by rw [← hK]; exact hl.2.2.2.2) (by rw [← hK, hll]; exact hl2.2.2.2.2)
      rw [hx] at hH
      simp only [cuS] at hH
      rw [hcE]
      (repeat (first | ((with_reducible refine rgn_cons rfl (fun K hK => ?_)); simp only [go_sem, seval, ↓reduceIte, decide_true, decide_false, show ((0 : Int) != 0) = false from rfl, List.length_nil, show (((0 : Nat) : Int) == 0) = true from rfl, show ((0 : Int) == 0) = true from rfl]; (first | refine hK _ _ _ (by simp only [go_sem, Nat.reduceEqDiff, ↓reduceIte]; rfl) ?_ | refine ⟨_, hD, hK _ _ _ (by simp only [go_sem, Nat.reduceEqDiff, ↓reduceIte]; rfl) ?_⟩ | refine ⟨_, hS, hK _ _ _ (by simp only [go_sem, Nat.reduceEqDiff, ↓reduceIte]; rfl) ?_⟩ | refine ⟨_, hH, hK _ _ _ (by simp only [go_sem, Nat.reduceEqDiff, ↓reduceIte]; rfl) ?_⟩); clear hK; clear K) | (with_reducible first | refine rgn_nil (by first | trivial | kernel_rfl) ?_ | refine AWP.seq ?_ | refine tX hC hP (by kernel_rfl) ?_ | refine aX hC hM hP (by kernel_rfl) ?_ | refine AWP.skip ?_ | refine AWP.label ?_ | refine AWP.exit ?_ | refine AWP.block ?_ | refine cTa ?_ | refine cFa ?_) | simp only [qS, Nat.reduceEqDiff, ↓reduceIte]))
      (refine AWP.ret ?_; refine retOk2 (by simp only [go_sem, seval, ↓reduceIte, decide_true, decide_false]; rfl) (by simp only [go_sem, seval, ↓reduceIte, decide_true, decide_false]; rfl) (by simp) ?_)
      rfl
  · have hS := c_impl_searchable_no m n la lb ((la.length : Int) - 1) ha hb h1
    have hcE : isoC m la n lb = twC m la n lb := by rw [isoC, if_neg h1]
    rw [hcE]
    (repeat (first | ((with_reducible refine rgn_cons rfl (fun K hK => ?_)); simp only [go_sem, seval, ↓reduceIte, decide_true, decide_false, show (twC m la n lb != 0) = true by rw [bne_iff_ne]; exact h1]; (first | refine hK _ _ _ (by simp only [go_sem, Nat.reduceEqDiff, ↓reduceIte]; rfl) ?_ | refine ⟨_, hD, hK _ _ _ (by simp only [go_sem, Nat.reduceEqDiff, ↓reduceIte]; rfl) ?_⟩ | refine ⟨_, hS, hK _ _ _ (by simp only [go_sem, Nat.reduceEqDiff, ↓reduceIte]; rfl) ?_⟩); clear hK; clear K) | (with_reducible first | refine rgn_nil (by first | trivial | kernel_rfl) ?_ | refine AWP.seq ?_ | refine tX hC hP (by kernel_rfl) ?_ | refine aX hC hM hP (by kernel_rfl) ?_ | refine AWP.skip ?_ | refine AWP.label ?_ | refine AWP.exit ?_ | refine AWP.block ?_ | refine cTa ?_ | refine cFa ?_) | simp only [qS, Nat.reduceEqDiff, ↓reduceIte]))
    (refine AWP.ret ?_; refine retOk2 (by simp only [go_sem, seval, ↓reduceIte, decide_true, decide_false]; rfl) (by simp only [go_sem, seval, ↓reduceIte, decide_true, decide_false]; rfl) (by simp) ?_)
    rfl
end Go.Proofs.Ytahnnangdepkbab
