/-
  The program's numbers of points.
-/
import Derived.Test.YtfnfdjomkohfjaaNb
namespace Go.Proofs.Ytfnfdjomkohfjaa
open Go.RowKit
set_option linter.unusedSimpArgs false
set_option linter.unusedVariables false
set_option linter.unusedSectionVars false
set_option maxRecDepth 20000
-- The program's numbers of points.
def seqD : Nat → Code → Code
  | 0, c => c
  | k + 1, .seq _ y => seqD k y
  | _ + 1, c => c
def seqP : Nat → Code → Code → Code
  | 0, R, _ => R
  | k + 1, R, .seq x y => .seq x (seqP k R y)
  | _ + 1, _, c => c
theorem seqP_D : ∀ (k : Nat) (c : Code), seqP k (seqD k c) c = c
  | 0, _ => rfl
  | k + 1, c => by cases c <;> simp [seqP, seqD, seqP_D]
/-- What follows the first k parts is looked at once, from fewer slots; the walk to it does not see it. -/
theorem AWP.tailK {C : Ctx} {n : Nat} {Q : Exit → Env → Prop} {env : Env} {c : Code} (k : Nat) (E : Env) (h : AWP C n (seqD k c) Q E) (h2 : ∀ R, AWP C n R Q E → AWP C n (seqP k R c) Q env) : AWP C n c Q env := by
  have h3 := h2 _ h
  rwa [seqP_D] at h3
/-- The codes of a law, a length and a number whose killed points are counted. -/
noncomputable def pkC (m : Int) (ll : List (List Int)) (k : Int) : Int := if lawB m ll = true then (if 1 ≤ k ∧ k ≤ (ll.length : Int) - 1 then 0 else 2) else 1
noncomputable def ckC (m : Int) (ll : List (List Int)) (k n : Int) : Int := if pkC m ll k = 1 then 1 else (if pkC m ll k = 2 ∨ ¬ (0 ≤ n ∧ n ≤ 1000000) then 2 else (if szM m.toNat k.toNat 5000 = 5001 then 3 else 0))
noncomputable def ckV (m : Int) (ll : List (List Int)) (k n : Int) : Int := if ckC m ll k n = 0 then (cvN m.toNat (fun y => klB m ll y n.toNat) k.toNat [] : Nat) else 0
theorem pkC_zero {m : Int} {ll : List (List Int)} {k : Int} (h : pkC m ll k = 0) : lawB m ll = true ∧ 1 ≤ k ∧ k ≤ (ll.length : Int) - 1 := by
  unfold pkC at h
  split at h
  · rename_i h1
    split at h
    · rename_i h2; exact ⟨h1, h2⟩
    · cases h
  · cases h
theorem pkC_cases (m : Int) (ll : List (List Int)) (k : Int) : pkC m ll k = 0 ∨ pkC m ll k = 1 ∨ pkC m ll k = 2 := by
  unfold pkC; split
  · split
    · exact .inl rfl
    · exact .inr (.inr rfl)
  · exact .inr (.inl rfl)
theorem pk_pt {M K : Nat} {ll : List (List Int)} (h : pkC (M : Int) ll (K : Int) = 0) {x : List Int} (hx : x.length = K) (hb : ∀ z ∈ x, 0 ≤ z ∧ z < (M : Int)) : ptC (M : Int) ll [x] = 0 := by
  obtain ⟨h1, h2, h3⟩ := pkC_zero h
  have hl := isPl_of (lawB_of h1).1
  refine ptC_yes h1 (fun i hi => ?_)
  have e : i = 0 := by simp at hi; omega
  subst e
  simp only [ptB, spB, List.getD_cons_zero, Bool.and_eq_true, decide_eq_true_eq, List.all_eq_true, isNum]
  exact ⟨⟨by omega, fun z hz => by have := hb z hz; omega⟩, by trivial⟩
set_option maxHeartbeats 1000000 in
theorem c_impl_pointed_k (m k : Int) (ll : List (List Int)) (hs : Sm ll) : AFn Try.prog 32 [.agg [.int .i64 m, .sl false 25 (rowsF ll)], .int .i64 k, .nil] (.int .i64 (pkC m ll k)) := by
  refine AFn.of' ttOk (by decide) Try.func32 Try.ntmps32 (by rw [Try.results32]) (by rfl) (by rfl) (by simp) (by decide) (by simp only [go_sem, Nat.reduceAdd, ↓reduceIte]; rfl) mixed (fun C hP hM hC => ?_)
  have hA := c_impl_IsLaw m ll hs
  cases hb : lawB m ll with
  | false =>
    (repeat (first | ((with_reducible refine rgn_cons rfl (fun K hK => ?_)); simp only [go_sem, seval, ↓reduceIte, decide_true, decide_false, hb]; (first | refine hK _ _ _ (by simp only [go_sem, Nat.reduceEqDiff, ↓reduceIte]; rfl) ?_ | refine ⟨_, hA, hK _ _ _ (by simp only [go_sem, Nat.reduceEqDiff, ↓reduceIte]; rfl) ?_⟩); clear hK; clear K) | (with_reducible first | refine rgn_nil (by first | trivial | kernel_rfl) ?_ | refine AWP.seq ?_ | refine tX hC hP (by kernel_rfl) ?_ | refine aX hC hM hP (by kernel_rfl) ?_ | refine AWP.skip ?_ | refine AWP.label ?_ | refine AWP.exit ?_ | refine AWP.block ?_ | refine cTa ?_ | refine cFa ?_) | simp only [qS, Nat.reduceEqDiff, ↓reduceIte]))
    (refine AWP.ret ?_; refine retOk1 (by simp only [go_sem, seval, ↓reduceIte, decide_true, decide_false]; rfl) ?_)
    simp [pkC, hb]
  | true =>
    have hp := isPl_of (lawB_of hb).1
    have hD := c_impl_Plane_degree m ll (by omega)
    cases hr : (decide (1 ≤ k) && decide (k ≤ (ll.length : Int) - 1)) with
    | false =>
      (repeat (first | ((with_reducible refine rgn_cons rfl (fun K hK => ?_)); simp only [go_sem, seval, ↓reduceIte, decide_true, decide_false, hb, hr]; (first | refine hK _ _ _ (by simp only [go_sem, Nat.reduceEqDiff, ↓reduceIte]; rfl) ?_ | refine ⟨_, hA, hK _ _ _ (by simp only [go_sem, Nat.reduceEqDiff, ↓reduceIte]; rfl) ?_⟩ | refine ⟨_, hD, hK _ _ _ (by simp only [go_sem, Nat.reduceEqDiff, ↓reduceIte]; rfl) ?_⟩ | refine ⟨_, c_impl_in _ _ _, hK _ _ _ (by simp only [go_sem, Nat.reduceEqDiff, ↓reduceIte]; rfl) ?_⟩); clear hK; clear K) | (with_reducible first | refine rgn_nil (by first | trivial | kernel_rfl) ?_ | refine AWP.seq ?_ | refine tX hC hP (by kernel_rfl) ?_ | refine aX hC hM hP (by kernel_rfl) ?_ | refine AWP.skip ?_ | refine AWP.label ?_ | refine AWP.exit ?_ | refine AWP.block ?_ | refine cTa ?_ | refine cFa ?_) | simp only [qS, Nat.reduceEqDiff, ↓reduceIte]))
      (refine AWP.ret ?_; refine retOk1 (by simp only [go_sem, seval, ↓reduceIte, decide_true, decide_false]; rfl) ?_)
      have : ¬ (1 ≤ k ∧ k ≤ (ll.length : Int) - 1) := by
        intro h
        rw [decide_eq_true h.1, decide_eq_true h.2] at hr
        cases hr
      rw [pkC, if_pos hb, if_neg this]
    | true =>
      have h2 : 1 ≤ k ∧ k ≤ (ll.length : Int) - 1 := by simpa using hr
      (repeat (first | ((with_reducible refine rgn_cons rfl (fun K hK => ?_)); simp only [go_sem, seval, ↓reduceIte, decide_true, decide_false, hb, hr]; (first | refine hK _ _ _ (by simp only [go_sem, Nat.reduceEqDiff, ↓reduceIte]; rfl) ?_ | refine ⟨_, hA, hK _ _ _ (by simp only [go_sem, Nat.reduceEqDiff, ↓reduceIte]; rfl) ?_⟩ | refine ⟨_, hD, hK _ _ _ (by simp only [go_sem, Nat.reduceEqDiff, ↓reduceIte]; rfl) ?_⟩ | refine ⟨_, c_impl_in _ _ _, hK _ _ _ (by simp only [go_sem, Nat.reduceEqDiff, ↓reduceIte]; rfl) ?_⟩); clear hK; clear K) | (with_reducible first | refine rgn_nil (by first | trivial | kernel_rfl) ?_ | refine AWP.seq ?_ | refine tX hC hP (by kernel_rfl) ?_ | refine aX hC hM hP (by kernel_rfl) ?_ | refine AWP.skip ?_ | refine AWP.label ?_ | refine AWP.exit ?_ | refine AWP.block ?_ | refine cTa ?_ | refine cFa ?_) | simp only [qS, Nat.reduceEqDiff, ↓reduceIte]))
      refine AWP.loop (fun i : Nat => [(21, ⟨0, .val (.int .i64 0)⟩), (20, ⟨0, .val (.int .i64 0)⟩)]) (fun i => True) (fun i => 0) 0 trivial (fun i => rfl) ?_ (fun i hi => ?_)
      · simp [Sub, lk]
      · (repeat (first | ((with_reducible refine rgn_cons rfl (fun K hK => ?_)); simp only [go_sem, seval, ↓reduceIte, decide_true, decide_false, show ¬ (0 : Int) < 0 by omega, decide_false]; (refine hK _ _ _ (by simp only [go_sem, Nat.reduceEqDiff, ↓reduceIte]; rfl) ?_); clear hK; clear K) | (with_reducible first | refine rgn_nil (by first | trivial | kernel_rfl) ?_ | refine AWP.seq ?_ | refine tX hC hP (by kernel_rfl) ?_ | refine aX hC hM hP (by kernel_rfl) ?_ | refine AWP.skip ?_ | refine AWP.label ?_ | refine AWP.exit ?_ | refine AWP.block ?_ | refine cTa ?_ | refine cFa ?_) | simp only [qS, Nat.reduceEqDiff, ↓reduceIte]))
        (refine AWP.ret ?_; refine retOk1 (by simp only [go_sem, seval, ↓reduceIte, decide_true, decide_false]; rfl) ?_)
        rw [pkC, if_pos hb, if_pos h2]
theorem szM_big {m k : Nat} (h : ¬ szM m k 5000 = 5001) : m ^ k ≤ 5000 ∧ szM m k 5000 = m ^ k := by
  unfold szM at h ⊢
  split
  · rename_i h1; exact ⟨h1, rfl⟩
  · rename_i h1; rw [if_neg h1] at h; exact absurd rfl h
set_option maxHeartbeats 1000000 in
theorem c_impl_fewPoints (M K : Nat) (ll : List (List Int)) (hs : Sm ll) (h : pkC (M : Int) ll (K : Int) = 0) : AFn Try.prog 47 [.agg [.int .i64 (M : Int), .sl false 25 (rowsF ll)], .int .i64 K] (.int .i64 (if szM M K 5000 = 5001 then 3 else 0)) := by
  refine AFn.of' ttOk (by decide) Try.func47 Try.ntmps47 (by rw [Try.results47]) (by rfl) (by rfl) (by simp) (by decide) (by simp only [go_sem, Nat.reduceAdd, ↓reduceIte]; rfl) mixed (fun C hP hM hC => ?_)
  have hz := pkC_zero h
  have hl := isPl_of (lawB_of hz.1).1
  have hA := c_impl_pointed_k (M : Int) (K : Int) ll hs
  have hB := c_impl_countAtMost M K 5000 (by omega) (by omega) (by omega) (by omega) (by omega)
  rw [h] at hA
  by_cases hq : szM M K 5000 = 5001
  · rw [hq] at hB
    (repeat (first | ((with_reducible refine rgn_cons rfl (fun K hK => ?_)); simp only [go_sem, seval, ↓reduceIte, decide_true, decide_false, show ((0 : Int) != 0) = false from rfl, show ((5001 : Nat) : Int) > 5000 by omega, show (5000 : Int) < ((5001 : Nat) : Int) by omega, decide_true]; (first | refine hK _ _ _ (by simp only [go_sem, Nat.reduceEqDiff, ↓reduceIte]; rfl) ?_ | refine ⟨_, hA, hK _ _ _ (by simp only [go_sem, Nat.reduceEqDiff, ↓reduceIte]; rfl) ?_⟩ | refine ⟨_, hB, hK _ _ _ (by simp only [go_sem, Nat.reduceEqDiff, ↓reduceIte]; rfl) ?_⟩); clear hK; clear K) | (with_reducible first | refine rgn_nil (by first | trivial | kernel_rfl) ?_ | refine AWP.seq ?_ | refine tX hC hP (by kernel_rfl) ?_ | refine aX hC hM hP (by kernel_rfl) ?_ | refine AWP.skip ?_ | refine AWP.label ?_ | refine AWP.exit ?_ | refine AWP.block ?_ | refine cTa ?_ | refine cFa ?_) | simp only [qS, Nat.reduceEqDiff, ↓reduceIte]))
    (refine AWP.ret ?_; refine retOk1 (by simp only [go_sem, seval, ↓reduceIte, decide_true, decide_false]; rfl) ?_)
    rw [if_pos hq]
  · have h2 := szM_big hq
    have h4 : ¬ (5000 : Int) < ((szM M K 5000 : Nat) : Int) := by omega
    (repeat (first | ((with_reducible refine rgn_cons rfl (fun K hK => ?_)); simp only [go_sem, seval, ↓reduceIte, decide_true, decide_false, show ((0 : Int) != 0) = false from rfl, h4, decide_false]; (first | refine hK _ _ _ (by simp only [go_sem, Nat.reduceEqDiff, ↓reduceIte]; rfl) ?_ | refine ⟨_, hA, hK _ _ _ (by simp only [go_sem, Nat.reduceEqDiff, ↓reduceIte]; rfl) ?_⟩ | refine ⟨_, hB, hK _ _ _ (by simp only [go_sem, Nat.reduceEqDiff, ↓reduceIte]; rfl) ?_⟩); clear hK; clear K) | (with_reducible first | refine rgn_nil (by first | trivial | kernel_rfl) ?_ | refine AWP.seq ?_ | refine tX hC hP (by kernel_rfl) ?_ | refine aX hC hM hP (by kernel_rfl) ?_ | refine AWP.skip ?_ | refine AWP.label ?_ | refine AWP.exit ?_ | refine AWP.block ?_ | refine cTa ?_ | refine cFa ?_) | simp only [qS, Nat.reduceEqDiff, ↓reduceIte]))
    (refine AWP.ret ?_; refine retOk1 (by simp only [go_sem, seval, ↓reduceIte, decide_true, decide_false]; rfl) ?_)
    rw [if_neg hq]
set_option maxHeartbeats 4000000 in
theorem c_impl_countKilled (M n K : Nat) (ll : List (List Int)) (h : pkC (M : Int) ll (K : Int) = 0) (hn : n ≤ 1000000) (hz : M ^ K ≤ 5000) : AFn Try.prog 48 [.agg [.int .i64 (M : Int), .sl false 25 (rowsF ll)], .int .i64 K, .int .i64 n] (.int .i64 (cvN M (fun y => klB M ll y n) K [] : Nat)) := by
  refine AFn.of' ttOk (by decide) Try.func48 Try.ntmps48 (by rw [Try.results48]) (by rfl) (by rfl) (by simp) (by decide) (by simp only [go_sem, Nat.reduceAdd, ↓reduceIte]; rfl) mixed (fun C hP hM hC => ?_)
  have hz1 := pkC_zero h
  have hl := isPl_of (lawB_of hz1.1).1
  refine AWP.tailK 2 [(1, ⟨0, .val (.int .i64 K)⟩), (3, ⟨1, .own (.box 29 (.agg [.int .i64 (M : Int), .sl false 25 (rowsF ll)]))⟩), (5, ⟨1, .own (.box 2 (.int .i64 n))⟩), (7, ⟨2, .own (.box 29 (.agg [.int .i64 (M : Int), .sl true 25 (rowsO (tab2 (K + 1) (pc ll)))]))⟩), (8, ⟨1, .own (.box 2 (.int .i64 0))⟩)] ?_ (fun R tail => ?_)
  · simp only [seqD]
    refine AWP.frz (s := 7) rfl ?_
    refine AWP.frz (s := 5) rfl ?_
    simp only [go_sem]
    have hcv := c_impl_curves M n K ll hn (by omega) (by omega) (by omega) (fun x hx hb => pk_pt h hx hb) K 0 (tab K (fun _ => 0)) 0 (tab_length _ _) (by omega) (fun z hz => by
      obtain ⟨i, _, rfl⟩ := mem_tab.1 hz
      omega) (by omega)
    simp only [List.take_zero, List.nil_append, Nat.zero_add, Int.natCast_zero, Int.natCast_one] at hcv
    have hzr : tab (K + 1) (fun _ => (0 : Int)) = 0 :: tab K (fun _ => 0) := by
      rw [tab, tab, List.range_succ_eq_map, List.map_cons, List.map_map]; rfl
    have hZ := c_impl_zero (M : Int) (K : Int) (K + 1) (by omega) (by omega)
    rw [hzr] at hZ
    (repeat (first | ((with_reducible refine rgn_cons rfl (fun K hK => ?_)); simp only [go_sem, seval, ↓reduceIte, decide_true, decide_false]; (first | refine hK _ _ _ (by simp only [go_sem, Nat.reduceEqDiff, ↓reduceIte]; rfl) ?_ | refine ⟨_, hZ, hK _ _ _ (by simp only [go_sem, Nat.reduceEqDiff, ↓reduceIte]; rfl) ?_⟩ | refine ⟨_, hcv, hK _ _ _ (by simp only [go_sem, Nat.reduceEqDiff, ↓reduceIte]; rfl) ?_⟩); clear hK; clear K) | (with_reducible first | refine rgn_nil (by first | trivial | kernel_rfl) ?_ | refine AWP.seq ?_ | refine tX hC hP (by kernel_rfl) ?_ | refine aX hC hM hP (by kernel_rfl) ?_ | refine AWP.skip ?_ | refine AWP.label ?_ | refine AWP.exit ?_ | refine AWP.block ?_ | refine cTa ?_ | refine cFa ?_) | simp only [qS, Nat.reduceEqDiff, ↓reduceIte]))
    (refine AWP.ret ?_; refine retOk1 (by simp only [go_sem, seval, ↓reduceIte, decide_true, decide_false]; rfl) ?_)
    rfl
  · simp only [seqP]
    have hct := c_impl_Plane_cut (M : Int) ll ll.length K hl.2.2.2.2 (by omega) (by omega)
    (repeat (first | ((with_reducible refine rgn_cons rfl (fun K hK => ?_)); simp only [go_sem, seval, ↓reduceIte, decide_true, decide_false]; (first | refine hK _ _ _ (by simp only [go_sem, Nat.reduceEqDiff, ↓reduceIte]; rfl) ?_ | refine ⟨_, hct, hK _ _ _ (by simp only [go_sem, Nat.reduceEqDiff, ↓reduceIte]; rfl) ?_⟩); clear hK; clear K) | (with_reducible first | refine rgn_nil (by first | trivial | kernel_rfl) ?_ | refine AWP.seq ?_ | refine tX hC hP (by kernel_rfl) ?_ | refine aX hC hM hP (by kernel_rfl) ?_ | refine AWP.skip ?_ | refine AWP.label ?_ | refine AWP.exit ?_ | refine AWP.block ?_ | refine cTa ?_ | refine cFa ?_) | simp only [qS, Nat.reduceEqDiff, ↓reduceIte]))
    refine AWP.sub ?_ (by rfl) tail
    simp [Sub, lk]
set_option maxHeartbeats 1000000 in
theorem c_impl_CountKilled (m k n : Int) (ll : List (List Int)) (hs : Sm ll) : AFn Try.prog 20 [.agg [.int .i64 m, .sl false 25 (rowsF ll)], .int .i64 k, .int .i64 n] (.tup [.int .i64 (ckV m ll k n), .int .i64 (ckC m ll k n)]) := by
  refine AFn.of' ttOk (by decide) Try.func20 Try.ntmps20 (by rw [Try.results20]) (by rfl) (by rfl) (by simp) (by decide) (by simp only [go_sem, Nat.reduceAdd, ↓reduceIte]; rfl) mixed (fun C hP hM hC => ?_)
  have hA := c_impl_pointed_k m k ll hs
  by_cases h0 : pkC m ll k = 0
  · obtain ⟨h1, h2, h3⟩ := pkC_zero h0
    have hl := isPl_of (lawB_of h1).1
    obtain ⟨M, rfl⟩ := Int.eq_ofNat_of_zero_le (show 0 ≤ m by omega)
    obtain ⟨K, rfl⟩ := Int.eq_ofNat_of_zero_le (show 0 ≤ k by omega)
    rw [h0] at hA
    by_cases hn : 0 ≤ n ∧ n ≤ 1000000
    · obtain ⟨N, rfl⟩ := Int.eq_ofNat_of_zero_le (show 0 ≤ n by omega)
      have hB := c_impl_fewPoints M K ll hs h0
      by_cases hq : szM M K 5000 = 5001
      · have hc : ckC (M : Int) ll (K : Int) (N : Int) = 3 := by
          rw [ckC, h0, if_neg (by decide), if_neg (by omega), Int.toNat_natCast, Int.toNat_natCast, if_pos hq]
        rw [if_pos hq] at hB
        (repeat (first | ((with_reducible refine rgn_cons rfl (fun K hK => ?_)); simp only [go_sem, seval, ↓reduceIte, decide_true, decide_false, show ((0 : Int) != 0) = false from rfl, show ((3 : Int) != 0) = true from rfl, show (0 : Int) ≤ (N : Int) by omega, show (N : Int) ≤ 1000000 by omega, decide_true, Bool.and_self]; (first | refine hK _ _ _ (by simp only [go_sem, Nat.reduceEqDiff, ↓reduceIte]; rfl) ?_ | refine ⟨_, hA, hK _ _ _ (by simp only [go_sem, Nat.reduceEqDiff, ↓reduceIte]; rfl) ?_⟩ | refine ⟨_, hB, hK _ _ _ (by simp only [go_sem, Nat.reduceEqDiff, ↓reduceIte]; rfl) ?_⟩ | refine ⟨_, c_impl_in _ _ _, hK _ _ _ (by simp only [go_sem, Nat.reduceEqDiff, ↓reduceIte]; rfl) ?_⟩); clear hK; clear K) | (with_reducible first | refine rgn_nil (by first | trivial | kernel_rfl) ?_ | refine AWP.seq ?_ | refine tX hC hP (by kernel_rfl) ?_ | refine aX hC hM hP (by kernel_rfl) ?_ | refine AWP.skip ?_ | refine AWP.label ?_ | refine AWP.exit ?_ | refine AWP.block ?_ | refine cTa ?_ | refine cFa ?_) | simp only [qS, Nat.reduceEqDiff, ↓reduceIte]))
        (refine AWP.ret ?_; refine retOk2 (by simp only [go_sem, seval, ↓reduceIte, decide_true, decide_false]; rfl) (by simp only [go_sem, seval, ↓reduceIte, decide_true, decide_false]; rfl) (by simp) ?_)
        rw [hc, ckV, hc, if_neg (by decide)]
      · have h5 := szM_big hq
        have hc : ckC (M : Int) ll (K : Int) (N : Int) = 0 := by
          rw [ckC, h0, if_neg (by decide), if_neg (by omega), Int.toNat_natCast, Int.toNat_natCast, if_neg hq]
        rw [if_neg hq] at hB
        have hck := c_impl_countKilled M N K ll h0 (by omega) h5.1
        (repeat (first | ((with_reducible refine rgn_cons rfl (fun K hK => ?_)); simp only [go_sem, seval, ↓reduceIte, decide_true, decide_false, show ((0 : Int) != 0) = false from rfl, show (0 : Int) ≤ (N : Int) by omega, show (N : Int) ≤ 1000000 by omega, decide_true, Bool.and_self]; (first | refine hK _ _ _ (by simp only [go_sem, Nat.reduceEqDiff, ↓reduceIte]; rfl) ?_ | refine ⟨_, hA, hK _ _ _ (by simp only [go_sem, Nat.reduceEqDiff, ↓reduceIte]; rfl) ?_⟩ | refine ⟨_, hB, hK _ _ _ (by simp only [go_sem, Nat.reduceEqDiff, ↓reduceIte]; rfl) ?_⟩ | refine ⟨_, c_impl_in _ _ _, hK _ _ _ (by simp only [go_sem, Nat.reduceEqDiff, ↓reduceIte]; rfl) ?_⟩ | refine ⟨_, hck, hK _ _ _ (by simp only [go_sem, Nat.reduceEqDiff, ↓reduceIte]; rfl) ?_⟩); clear hK; clear K) | (with_reducible first | refine rgn_nil (by first | trivial | kernel_rfl) ?_ | refine AWP.seq ?_ | refine tX hC hP (by kernel_rfl) ?_ | refine aX hC hM hP (by kernel_rfl) ?_ | refine AWP.skip ?_ | refine AWP.label ?_ | refine AWP.exit ?_ | refine AWP.block ?_ | refine cTa ?_ | refine cFa ?_) | simp only [qS, Nat.reduceEqDiff, ↓reduceIte]))
        (refine AWP.ret ?_; refine retOk2 (by simp only [go_sem, seval, ↓reduceIte, decide_true, decide_false]; rfl) (by simp only [go_sem, seval, ↓reduceIte, decide_true, decide_false]; rfl) (by simp) ?_)
        rw [hc, ckV, hc, if_pos rfl, Int.toNat_natCast, Int.toNat_natCast, Int.toNat_natCast]
    · have hc : ckC (M : Int) ll (K : Int) n = 2 := by
        rw [ckC, h0, if_neg (by decide), if_pos (.inr hn)]
      (repeat (first | ((with_reducible refine rgn_cons rfl (fun K hK => ?_)); simp only [go_sem, seval, ↓reduceIte, decide_true, decide_false, show ((0 : Int) != 0) = false from rfl, show (decide ((0 : Int) ≤ n) && decide (n ≤ (1000000 : Int))) = false by simpa using hn]; (first | refine hK _ _ _ (by simp only [go_sem, Nat.reduceEqDiff, ↓reduceIte]; rfl) ?_ | refine ⟨_, hA, hK _ _ _ (by simp only [go_sem, Nat.reduceEqDiff, ↓reduceIte]; rfl) ?_⟩ | refine ⟨_, c_impl_in _ _ _, hK _ _ _ (by simp only [go_sem, Nat.reduceEqDiff, ↓reduceIte]; rfl) ?_⟩); clear hK; clear K) | (with_reducible first | refine rgn_nil (by first | trivial | kernel_rfl) ?_ | refine AWP.seq ?_ | refine tX hC hP (by kernel_rfl) ?_ | refine aX hC hM hP (by kernel_rfl) ?_ | refine AWP.skip ?_ | refine AWP.label ?_ | refine AWP.exit ?_ | refine AWP.block ?_ | refine cTa ?_ | refine cFa ?_) | simp only [qS, Nat.reduceEqDiff, ↓reduceIte]))
      (refine AWP.ret ?_; refine retOk2 (by simp only [go_sem, seval, ↓reduceIte, decide_true, decide_false]; rfl) (by simp only [go_sem, seval, ↓reduceIte, decide_true, decide_false]; rfl) (by simp) ?_)
      rw [hc, ckV, hc, if_neg (by decide)]
  · have hc : ckC m ll k n = pkC m ll k := by
      rcases pkC_cases m ll k with e | e | e
      · exact absurd e h0
      · rw [ckC, e, if_pos rfl]
      · rw [ckC, e, if_neg (by decide), if_pos (.inl rfl)]
    (repeat (first | ((with_reducible refine rgn_cons rfl (fun K hK => ?_)); simp only [go_sem, seval, ↓reduceIte, decide_true, decide_false, show (pkC m ll k != 0) = true by rw [bne_iff_ne]; exact h0]; (first | refine hK _ _ _ (by simp only [go_sem, Nat.reduceEqDiff, ↓reduceIte]; rfl) ?_ | refine ⟨_, hA, hK _ _ _ (by simp only [go_sem, Nat.reduceEqDiff, ↓reduceIte]; rfl) ?_⟩); clear hK; clear K) | (with_reducible first | refine rgn_nil (by first | trivial | kernel_rfl) ?_ | refine AWP.seq ?_ | refine tX hC hP (by kernel_rfl) ?_ | refine aX hC hM hP (by kernel_rfl) ?_ | refine AWP.skip ?_ | refine AWP.label ?_ | refine AWP.exit ?_ | refine AWP.block ?_ | refine cTa ?_ | refine cFa ?_) | simp only [qS, Nat.reduceEqDiff, ↓reduceIte]))
    (refine AWP.ret ?_; refine retOk2 (by simp only [go_sem, seval, ↓reduceIte, decide_true, decide_false]; rfl) (by simp only [go_sem, seval, ↓reduceIte, decide_true, decide_false]; rfl) (by simp) ?_)
    rw [ckV, hc, if_neg h0]
end Go.Proofs.Ytfnfdjomkohfjaa
