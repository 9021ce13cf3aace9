/-
  Substitutions: the functions.
-/
import Derived.Test.YtapdekacpecgiaaGreatSy
namespace Go.Proofs.YtapdekacpecgiaaGreat
open Go.RowKit
set_option linter.unusedSimpArgs false
set_option linter.unusedVariables false
set_option linter.unusedSectionVars false
set_option maxRecDepth 20000
-- Substitutions: the functions.
theorem ftC_two {m : Int} {t : List (List Int)} {ma mb : Int} {la lb : List Int} : sbC m t ma la mb lb = if ftC m t [(ma, la), (mb, lb)] = 0 then (if (la.getD 0 0 == 0) = true ∧ (lb.getD 0 0 == 0) = true then 0 else 5) else ftC m t [(ma, la), (mb, lb)] := by
  have hA : (∀ i, i < [(ma, la), (mb, lb)].length → isSer ([(ma, la), (mb, lb)].getD i (0, [])).1 ([(ma, la), (mb, lb)].getD i (0, [])).2 = true) ↔ isSer ma la = true ∧ isSer mb lb = true := by
    constructor
    · intro h; exact ⟨h 0 (by simp), h 1 (by simp)⟩
    · intro h i hi
      have : i = 0 ∨ i = 1 := by simp at hi; omega
      rcases this with rfl | rfl
      · exact h.1
      · exact h.2
  have hB : (∀ i, i < [(ma, la), (mb, lb)].length → ([(ma, la), (mb, lb)].getD i (0, [])).1 = m ∧ ([(ma, la), (mb, lb)].getD i (0, [])).2.length = t.length) ↔ (m = ma ∧ t.length = la.length) ∧ m = mb ∧ t.length = lb.length := by
    constructor
    · intro h
      have h0 := h 0 (by simp)
      have h1 := h 1 (by simp)
      exact ⟨⟨h0.1.symm, h0.2.symm⟩, h1.1.symm, h1.2.symm⟩
    · intro h i hi
      have : i = 0 ∨ i = 1 := by simp at hi; omega
      rcases this with rfl | rfl
      · exact ⟨h.1.1.symm, h.1.2.symm⟩
      · exact ⟨h.2.1.symm, h.2.2.symm⟩
  unfold ftC sbC
  simp only [hA, hB]
  split
  · split
    · rw [if_pos rfl]
    · rw [if_neg (by decide)]
  · rw [if_neg (by decide)]
theorem ftC_ser {m : Int} {t : List (List Int)} {L : List (Int × List Int)} (h : ftC m t L = 0) : isPl m t = true ∧ ∀ i, i < L.length → isSer (L.getD i (0, [])).1 (L.getD i (0, [])).2 = true := by
  unfold ftC at h
  split at h
  · rename_i h1; exact h1
  · cases h
set_option maxHeartbeats 2000000 in
theorem c_spec_l03Curves (m ma mb : Int) (t : List (List Int)) (la lb : List Int) (hsh : Shp t) (hla : la.length ≤ 1000) (hlb : lb.length ≤ 1000) : AFn Tryz.prog 73 [.agg [.int .i64 m, .sl false 27 (rowsF t)], .agg [.int .i64 ma, .sl false 2 (intL la)], .agg [.int .i64 mb, .sl false 2 (intL lb)]] (.int .i64 (sbC m t ma la mb lb)) := by
  refine AFn.of' ttOk (by decide) Tryz.func73 Tryz.ntmps73 (by rw [Tryz.results73]) (by rfl) (by rfl) (by simp) (by decide) (by simp only [go_sem, Nat.reduceAdd, ↓reduceIte]; rfl) mixed (fun C hP hM hC => ?_)
  have hF := c_spec_l03Fits m t [(ma, la), (mb, lb)] hsh (by simp) (fun i hi => by
    have : i = 0 ∨ i = 1 := by simp at hi; omega
    rcases this with rfl | rfl
    · exact hla
    · exact hlb)
  simp only [serL, List.map_cons, List.map_nil] at hF
  have hCa := c_spec_l02Curve ma la (by omega)
  have hCb := c_spec_l02Curve mb lb (by omega)
  by_cases g : ftC m t [(ma, la), (mb, lb)] = 0
  · have hs := ftC_ser g
    have hsa : isSer ma la = true := hs.2 0 (by simp)
    have hsb : isSer mb lb = true := hs.2 1 (by simp)
    rw [hsa, Bool.true_and] at hCa
    rw [hsb, Bool.true_and] at hCb
    rw [ftC_two, if_pos g]
    rw [g] at hF
    cases g6 : (la.getD 0 0 == 0) with
    | false =>
      rw [g6] at hCa
      (repeat (first | ((with_reducible refine rgn_cons rfl (fun K hK => ?_)); simp only [go_sem, seval, ↓reduceIte, decide_true, decide_false]; (first | refine hK _ _ _ (by simp only [go_sem, Nat.reduceEqDiff, ↓reduceIte]; rfl) ?_ | refine ⟨_, hF, hK _ _ _ (by simp only [go_sem, Nat.reduceEqDiff, ↓reduceIte]; rfl) ?_⟩ | refine ⟨_, hCa, hK _ _ _ (by simp only [go_sem, Nat.reduceEqDiff, ↓reduceIte]; rfl) ?_⟩); clear hK; clear K) | (with_reducible first | refine rgn_nil (by first | trivial | kernel_rfl) ?_ | refine AWP.seq ?_ | refine tX hC hP (by kernel_rfl) ?_ | refine aX hC hM hP (by kernel_rfl) ?_ | refine AWP.skip ?_ | refine AWP.label ?_ | refine AWP.exit ?_ | refine AWP.block ?_ | refine cTa ?_ | refine cFa ?_) | simp only [qS, Nat.reduceEqDiff, ↓reduceIte]))
      (refine AWP.ret ?_; refine retOk1 (by simp only [go_sem, seval, ↓reduceIte, decide_true, decide_false]; rfl) ?_)
      rw [if_neg (fun h => by cases h.1)]
    | true =>
      rw [g6] at hCa
      cases g7 : (lb.getD 0 0 == 0) with
      | false =>
        rw [g7] at hCb
        (repeat (first | ((with_reducible refine rgn_cons rfl (fun K hK => ?_)); simp only [go_sem, seval, ↓reduceIte, decide_true, decide_false]; (first | refine hK _ _ _ (by simp only [go_sem, Nat.reduceEqDiff, ↓reduceIte]; rfl) ?_ | refine ⟨_, hF, hK _ _ _ (by simp only [go_sem, Nat.reduceEqDiff, ↓reduceIte]; rfl) ?_⟩ | refine ⟨_, hCa, hK _ _ _ (by simp only [go_sem, Nat.reduceEqDiff, ↓reduceIte]; rfl) ?_⟩ | refine ⟨_, hCb, hK _ _ _ (by simp only [go_sem, Nat.reduceEqDiff, ↓reduceIte]; rfl) ?_⟩); clear hK; clear K) | (with_reducible first | refine rgn_nil (by first | trivial | kernel_rfl) ?_ | refine AWP.seq ?_ | refine tX hC hP (by kernel_rfl) ?_ | refine aX hC hM hP (by kernel_rfl) ?_ | refine AWP.skip ?_ | refine AWP.label ?_ | refine AWP.exit ?_ | refine AWP.block ?_ | refine cTa ?_ | refine cFa ?_) | simp only [qS, Nat.reduceEqDiff, ↓reduceIte]))
        (refine AWP.ret ?_; refine retOk1 (by simp only [go_sem, seval, ↓reduceIte, decide_true, decide_false]; rfl) ?_)
        rw [if_neg (fun h => by cases h.2)]
      | true =>
        rw [g7] at hCb
        (repeat (first | ((with_reducible refine rgn_cons rfl (fun K hK => ?_)); simp only [go_sem, seval, ↓reduceIte, decide_true, decide_false]; (first | refine hK _ _ _ (by simp only [go_sem, Nat.reduceEqDiff, ↓reduceIte]; rfl) ?_ | refine ⟨_, hF, hK _ _ _ (by simp only [go_sem, Nat.reduceEqDiff, ↓reduceIte]; rfl) ?_⟩ | refine ⟨_, hCa, hK _ _ _ (by simp only [go_sem, Nat.reduceEqDiff, ↓reduceIte]; rfl) ?_⟩ | refine ⟨_, hCb, hK _ _ _ (by simp only [go_sem, Nat.reduceEqDiff, ↓reduceIte]; rfl) ?_⟩); clear hK; clear K) | (with_reducible first | refine rgn_nil (by first | trivial | kernel_rfl) ?_ | refine AWP.seq ?_ | refine tX hC hP (by kernel_rfl) ?_ | refine aX hC hM hP (by kernel_rfl) ?_ | refine AWP.skip ?_ | refine AWP.label ?_ | refine AWP.exit ?_ | refine AWP.block ?_ | refine cTa ?_ | refine cFa ?_) | simp only [qS, Nat.reduceEqDiff, ↓reduceIte]))
        (refine AWP.ret ?_; refine retOk1 (by simp only [go_sem, seval, ↓reduceIte, decide_true, decide_false]; rfl) ?_)
        simp
  · rw [ftC_two, if_neg g]
    (repeat (first | ((with_reducible refine rgn_cons rfl (fun K hK => ?_)); simp only [go_sem, seval, ↓reduceIte, decide_true, decide_false, show (ftC m t [(ma, la), (mb, lb)] == 0) = false by rw [beq_eq_false_iff_ne]; exact g]; (first | refine hK _ _ _ (by simp only [go_sem, Nat.reduceEqDiff, ↓reduceIte]; rfl) ?_ | refine ⟨_, hF, hK _ _ _ (by simp only [go_sem, Nat.reduceEqDiff, ↓reduceIte]; rfl) ?_⟩); clear hK; clear K) | (with_reducible first | refine rgn_nil (by first | trivial | kernel_rfl) ?_ | refine AWP.seq ?_ | refine tX hC hP (by kernel_rfl) ?_ | refine aX hC hM hP (by kernel_rfl) ?_ | refine AWP.skip ?_ | refine AWP.label ?_ | refine AWP.exit ?_ | refine AWP.block ?_ | refine cTa ?_ | refine cFa ?_) | simp only [qS, Nat.reduceEqDiff, ↓reduceIte]))
    (refine AWP.ret ?_; refine retOk1 (by simp only [go_sem, seval, ↓reduceIte, decide_true, decide_false]; rfl) ?_)
    rfl
theorem sbC_facts {m : Int} {t : List (List Int)} {ma mb : Int} {la lb : List Int} (h : sbC m t ma la mb lb = 0) : 1 < m ∧ m ≤ 10000 ∧ m = ma ∧ m = mb ∧ Pl m t.length t ∧ 2 ≤ t.length ∧ t.length ≤ 11 ∧ la.length = t.length ∧ lb.length = t.length ∧ (∀ x ∈ la, 0 ≤ x ∧ x < m) ∧ (∀ x ∈ lb, 0 ≤ x ∧ x < m) ∧ at' la 0 = 0 ∧ at' lb 0 = 0 := by
  obtain ⟨⟨h1, h2, h3⟩, ⟨⟨rfl, h4⟩, rfl, h5⟩, h6, h7⟩ := sbC_ok h
  have hp := isPl_of h1
  exact ⟨by have := hp.1; omega, hp.2.1, rfl, rfl, hp.2.2.2.2, hp.2.2.1, hp.2.2.2.1, h4.symm, h5.symm, serNum h2, serNum h3, h6, h7⟩
set_option maxHeartbeats 1000000 in
theorem c_impl_SubstituteCurves_ok (m ma mb : Int) (t : List (List Int)) (la lb : List Int) (hsh : Shp t) (hla : la.length ≤ 1000) (hlb : lb.length ≤ 1000) (ha0 : 1 ≤ la.length) (hb0 : 1 ≤ lb.length) (h : sbC m t ma la mb lb = 0) : AFn Tryz.prog 11 [.agg [.int .i64 m, .sl false 27 (rowsF t)], .agg [.int .i64 ma, .sl false 2 (intL la)], .agg [.int .i64 mb, .sl false 2 (intL lb)]] (.tup [.agg [.int .i64 m, .sl true 2 (intL (putL m (pc t) la lb (t.length - 1)))], .int .i64 0]) := by
  refine AFn.of' ttOk (by decide) Tryz.func11 Tryz.ntmps11 (by rw [Tryz.results11]) (by rfl) (by rfl) (by simp) (by decide) (by simp only [go_sem, Nat.reduceAdd, ↓reduceIte]; rfl) mixed (fun C hP hM hC => ?_)
  have hC1 := c_impl_substitutable m ma mb t la lb hsh hla hlb ha0 hb0
  rw [h] at hC1
  obtain ⟨f1, f2, rfl, rfl, f5, f6, f7, f8, f9, f10, f11, f12, f13⟩ := sbC_facts h
  have hV := c_impl_Plane_curves m t la lb (t.length - 1) f1 f2 (by rw [show t.length - 1 + 1 = t.length by omega]; exact f5) f10 (by omega) f11 (by omega) (by omega)
  (repeat (first | ((with_reducible refine rgn_cons rfl (fun K hK => ?_)); simp only [go_sem, seval, ↓reduceIte, decide_true, decide_false]; (first | refine hK _ _ _ (by simp only [go_sem, Nat.reduceEqDiff, ↓reduceIte]; rfl) ?_ | refine ⟨_, hC1, hK _ _ _ (by simp only [go_sem, Nat.reduceEqDiff, ↓reduceIte]; rfl) ?_⟩ | refine ⟨_, hV, hK _ _ _ (by simp only [go_sem, Nat.reduceEqDiff, ↓reduceIte]; rfl) ?_⟩); clear hK; clear K) | (with_reducible first | refine rgn_nil (by first | trivial | kernel_rfl) ?_ | refine AWP.seq ?_ | refine tX hC hP (by kernel_rfl) ?_ | refine aX hC hM hP (by kernel_rfl) ?_ | refine AWP.skip ?_ | refine AWP.label ?_ | refine AWP.exit ?_ | refine AWP.block ?_ | refine cTa ?_ | refine cFa ?_) | simp only [qS, Nat.reduceEqDiff, ↓reduceIte]))
  (refine AWP.ret ?_; refine retOk2 (by simp only [go_sem, seval, ↓reduceIte, decide_true, decide_false]; rfl) (by simp only [go_sem, seval, ↓reduceIte, decide_true, decide_false]; rfl) (by simp) ?_)
  rfl
set_option maxHeartbeats 1000000 in
theorem c_impl_SubstituteCurves_no (m ma mb : Int) (t : List (List Int)) (la lb : List Int) (hsh : Shp t) (hla : la.length ≤ 1000) (hlb : lb.length ≤ 1000) (ha0 : 1 ≤ la.length) (hb0 : 1 ≤ lb.length) (h : sbC m t ma la mb lb ≠ 0) : AFn Tryz.prog 11 [.agg [.int .i64 m, .sl false 27 (rowsF t)], .agg [.int .i64 ma, .sl false 2 (intL la)], .agg [.int .i64 mb, .sl false 2 (intL lb)]] (.tup [.agg [.int .i64 0, .nil], .int .i64 (sbC m t ma la mb lb)]) := by
  refine AFn.of' ttOk (by decide) Tryz.func11 Tryz.ntmps11 (by rw [Tryz.results11]) (by rfl) (by rfl) (by simp) (by decide) (by simp only [go_sem, Nat.reduceAdd, ↓reduceIte]; rfl) mixed (fun C hP hM hC => ?_)
  have hC1 := c_impl_substitutable m ma mb t la lb hsh hla hlb ha0 hb0
  (repeat (first | ((with_reducible refine rgn_cons rfl (fun K hK => ?_)); simp only [go_sem, seval, ↓reduceIte, decide_true, decide_false, show (sbC m t ma la mb lb != 0) = true by rw [bne_iff_ne]; exact h]; (first | refine hK _ _ _ (by simp only [go_sem, Nat.reduceEqDiff, ↓reduceIte]; rfl) ?_ | refine ⟨_, hC1, hK _ _ _ (by simp only [go_sem, Nat.reduceEqDiff, ↓reduceIte]; rfl) ?_⟩); clear hK; clear K) | (with_reducible first | refine rgn_nil (by first | trivial | kernel_rfl) ?_ | refine AWP.seq ?_ | refine tX hC hP (by kernel_rfl) ?_ | refine aX hC hM hP (by kernel_rfl) ?_ | refine AWP.skip ?_ | refine AWP.label ?_ | refine AWP.exit ?_ | refine AWP.block ?_ | refine cTa ?_ | refine cFa ?_) | simp only [qS, Nat.reduceEqDiff, ↓reduceIte]))
  (refine AWP.ret ?_; refine retOk2 (by simp only [go_sem, seval, ↓reduceIte, decide_true, decide_false]; rfl) (by simp only [go_sem, seval, ↓reduceIte, decide_true, decide_false]; rfl) (by simp) ?_)
  rfl
set_option maxHeartbeats 1000000 in
theorem c_impl_SubstituteBoth_ok (m ma mb : Int) (t : List (List Int)) (la lb : List Int) (hsh : Shp t) (hla : la.length ≤ 1000) (hlb : lb.length ≤ 1000) (ha0 : 1 ≤ la.length) (hb0 : 1 ≤ lb.length) (h : sbC m t ma la mb lb = 0) : AFn Tryz.prog 9 [.agg [.int .i64 m, .sl false 27 (rowsF t)], .agg [.int .i64 ma, .sl false 2 (intL la)], .agg [.int .i64 mb, .sl false 2 (intL lb)]] (.tup [.agg [.int .i64 m, .sl true 27 (rowsO (bthT m t.length (pc t) (pwC m la (t.length - 1)) (pwC m lb (t.length - 1))))], .int .i64 0]) := by
  refine AFn.of' ttOk (by decide) Tryz.func9 Tryz.ntmps9 (by rw [Tryz.results9]) (by rfl) (by rfl) (by simp) (by decide) (by simp only [go_sem, Nat.reduceAdd, ↓reduceIte]; rfl) mixed (fun C hP hM hC => ?_)
  have hC1 := c_impl_substitutable m ma mb t la lb hsh hla hlb ha0 hb0
  rw [h] at hC1
  obtain ⟨f1, f2, rfl, rfl, f5, f6, f7, f8, f9, f10, f11, f12, f13⟩ := sbC_facts h
  have hV := c_impl_Plane_both m t la lb t.length f1 f2 f5 f10 f8 f11 f9 (by omega) (by omega)
  (repeat (first | ((with_reducible refine rgn_cons rfl (fun K hK => ?_)); simp only [go_sem, seval, ↓reduceIte, decide_true, decide_false]; (first | refine hK _ _ _ (by simp only [go_sem, Nat.reduceEqDiff, ↓reduceIte]; rfl) ?_ | refine ⟨_, hC1, hK _ _ _ (by simp only [go_sem, Nat.reduceEqDiff, ↓reduceIte]; rfl) ?_⟩ | refine ⟨_, hV, hK _ _ _ (by simp only [go_sem, Nat.reduceEqDiff, ↓reduceIte]; rfl) ?_⟩); clear hK; clear K) | (with_reducible first | refine rgn_nil (by first | trivial | kernel_rfl) ?_ | refine AWP.seq ?_ | refine tX hC hP (by kernel_rfl) ?_ | refine aX hC hM hP (by kernel_rfl) ?_ | refine AWP.skip ?_ | refine AWP.label ?_ | refine AWP.exit ?_ | refine AWP.block ?_ | refine cTa ?_ | refine cFa ?_) | simp only [qS, Nat.reduceEqDiff, ↓reduceIte]))
  (refine AWP.ret ?_; refine retOk2 (by simp only [go_sem, seval, ↓reduceIte, decide_true, decide_false]; rfl) (by simp only [go_sem, seval, ↓reduceIte, decide_true, decide_false]; rfl) (by simp) ?_)
  rfl
set_option maxHeartbeats 1000000 in
theorem c_impl_SubstituteBoth_no (m ma mb : Int) (t : List (List Int)) (la lb : List Int) (hsh : Shp t) (hla : la.length ≤ 1000) (hlb : lb.length ≤ 1000) (ha0 : 1 ≤ la.length) (hb0 : 1 ≤ lb.length) (h : sbC m t ma la mb lb ≠ 0) : AFn Tryz.prog 9 [.agg [.int .i64 m, .sl false 27 (rowsF t)], .agg [.int .i64 ma, .sl false 2 (intL la)], .agg [.int .i64 mb, .sl false 2 (intL lb)]] (.tup [.agg [.int .i64 0, .nil], .int .i64 (sbC m t ma la mb lb)]) := by
  refine AFn.of' ttOk (by decide) Tryz.func9 Tryz.ntmps9 (by rw [Tryz.results9]) (by rfl) (by rfl) (by simp) (by decide) (by simp only [go_sem, Nat.reduceAdd, ↓reduceIte]; rfl) mixed (fun C hP hM hC => ?_)
  have hC1 := c_impl_substitutable m ma mb t la lb hsh hla hlb ha0 hb0
  (repeat (first | ((with_reducible refine rgn_cons rfl (fun K hK => ?_)); simp only [go_sem, seval, ↓reduceIte, decide_true, decide_false, show (sbC m t ma la mb lb != 0) = true by rw [bne_iff_ne]; exact h]; (first | refine hK _ _ _ (by simp only [go_sem, Nat.reduceEqDiff, ↓reduceIte]; rfl) ?_ | refine ⟨_, hC1, hK _ _ _ (by simp only [go_sem, Nat.reduceEqDiff, ↓reduceIte]; rfl) ?_⟩); clear hK; clear K) | (with_reducible first | refine rgn_nil (by first | trivial | kernel_rfl) ?_ | refine AWP.seq ?_ | refine tX hC hP (by kernel_rfl) ?_ | refine aX hC hM hP (by kernel_rfl) ?_ | refine AWP.skip ?_ | refine AWP.label ?_ | refine AWP.exit ?_ | refine AWP.block ?_ | refine cTa ?_ | refine cFa ?_) | simp only [qS, Nat.reduceEqDiff, ↓reduceIte]))
  (refine AWP.ret ?_; refine retOk2 (by simp only [go_sem, seval, ↓reduceIte, decide_true, decide_false]; rfl) (by simp only [go_sem, seval, ↓reduceIte, decide_true, decide_false]; rfl) (by simp) ?_)
  rfl
set_option maxHeartbeats 1000000 in
theorem c_spec_SubstituteCurves_ok (m ma mb : Int) (t : List (List Int)) (la lb : List Int) (hsh : Shp t) (hla : la.length ≤ 1000) (hlb : lb.length ≤ 1000) (ha0 : 1 ≤ la.length) (hb0 : 1 ≤ lb.length) (h : sbC m t ma la mb lb = 0) : AFn Tryz.prog 12 [.agg [.int .i64 m, .sl false 27 (rowsF t)], .agg [.int .i64 ma, .sl false 2 (intL la)], .agg [.int .i64 mb, .sl false 2 (intL lb)]] (.tup [.agg [.int .i64 m, .sl true 2 (intL (putL m (pc t) la lb (t.length - 1)))], .int .i64 0]) := by
  refine AFn.of' ttOk (by decide) Tryz.func12 Tryz.ntmps12 (by rw [Tryz.results12]) (by rfl) (by rfl) (by simp) (by decide) (by simp only [go_sem, Nat.reduceAdd, ↓reduceIte]; rfl) mixed (fun C hP hM hC => ?_)
  have hC1 := c_spec_l03Curves m ma mb t la lb hsh hla hlb
  rw [h] at hC1
  obtain ⟨f1, f2, rfl, rfl, f5, f6, f7, f8, f9, f10, f11, f12, f13⟩ := sbC_facts h
  have hV := c_spec_l03Put m t la lb (t.length - 1) f1 f2 (by rw [show t.length - 1 + 1 = t.length by omega]; exact f5) f10 (by omega) f11 (by omega) (by omega)
  (repeat (first | ((with_reducible refine rgn_cons rfl (fun K hK => ?_)); simp only [go_sem, seval, ↓reduceIte, decide_true, decide_false]; (first | refine hK _ _ _ (by simp only [go_sem, Nat.reduceEqDiff, ↓reduceIte]; rfl) ?_ | refine ⟨_, hC1, hK _ _ _ (by simp only [go_sem, Nat.reduceEqDiff, ↓reduceIte]; rfl) ?_⟩ | refine ⟨_, hV, hK _ _ _ (by simp only [go_sem, Nat.reduceEqDiff, ↓reduceIte]; rfl) ?_⟩ | refine ⟨_, c_spec_l02Make _ _, hK _ _ _ (by simp only [go_sem, Nat.reduceEqDiff, ↓reduceIte]; rfl) ?_⟩); clear hK; clear K) | (with_reducible first | refine rgn_nil (by first | trivial | kernel_rfl) ?_ | refine AWP.seq ?_ | refine tX hC hP (by kernel_rfl) ?_ | refine aX hC hM hP (by kernel_rfl) ?_ | refine AWP.skip ?_ | refine AWP.label ?_ | refine AWP.exit ?_ | refine AWP.block ?_ | refine cTa ?_ | refine cFa ?_) | simp only [qS, Nat.reduceEqDiff, ↓reduceIte]))
  (refine AWP.ret ?_; refine retOk2 (by simp only [go_sem, seval, ↓reduceIte, decide_true, decide_false]; rfl) (by simp only [go_sem, seval, ↓reduceIte, decide_true, decide_false]; rfl) (by simp) ?_)
  rfl
set_option maxHeartbeats 1000000 in
theorem c_spec_SubstituteCurves_no (m ma mb : Int) (t : List (List Int)) (la lb : List Int) (hsh : Shp t) (hla : la.length ≤ 1000) (hlb : lb.length ≤ 1000) (ha0 : 1 ≤ la.length) (hb0 : 1 ≤ lb.length) (h : sbC m t ma la mb lb ≠ 0) : AFn Tryz.prog 12 [.agg [.int .i64 m, .sl false 27 (rowsF t)], .agg [.int .i64 ma, .sl false 2 (intL la)], .agg [.int .i64 mb, .sl false 2 (intL lb)]] (.tup [.agg [.int .i64 0, .nil], .int .i64 (sbC m t ma la mb lb)]) := by
  refine AFn.of' ttOk (by decide) Tryz.func12 Tryz.ntmps12 (by rw [Tryz.results12]) (by rfl) (by rfl) (by simp) (by decide) (by simp only [go_sem, Nat.reduceAdd, ↓reduceIte]; rfl) mixed (fun C hP hM hC => ?_)
  have hC1 := c_spec_l03Curves m ma mb t la lb hsh hla hlb
  (repeat (first | ((with_reducible refine rgn_cons rfl (fun K hK => ?_)); simp only [go_sem, seval, ↓reduceIte, decide_true, decide_false, show (sbC m t ma la mb lb != 0) = true by rw [bne_iff_ne]; exact h]; (first | refine hK _ _ _ (by simp only [go_sem, Nat.reduceEqDiff, ↓reduceIte]; rfl) ?_ | refine ⟨_, hC1, hK _ _ _ (by simp only [go_sem, Nat.reduceEqDiff, ↓reduceIte]; rfl) ?_⟩); clear hK; clear K) | (with_reducible first | refine rgn_nil (by first | trivial | kernel_rfl) ?_ | refine AWP.seq ?_ | refine tX hC hP (by kernel_rfl) ?_ | refine aX hC hM hP (by kernel_rfl) ?_ | refine AWP.skip ?_ | refine AWP.label ?_ | refine AWP.exit ?_ | refine AWP.block ?_ | refine cTa ?_ | refine cFa ?_) | simp only [qS, Nat.reduceEqDiff, ↓reduceIte]))
  (refine AWP.ret ?_; refine retOk2 (by simp only [go_sem, seval, ↓reduceIte, decide_true, decide_false]; rfl) (by simp only [go_sem, seval, ↓reduceIte, decide_true, decide_false]; rfl) (by simp) ?_)
  rfl
set_option maxHeartbeats 1000000 in
theorem c_spec_SubstituteBoth_ok (m ma mb : Int) (t : List (List Int)) (la lb : List Int) (hsh : Shp t) (hla : la.length ≤ 1000) (hlb : lb.length ≤ 1000) (ha0 : 1 ≤ la.length) (hb0 : 1 ≤ lb.length) (h : sbC m t ma la mb lb = 0) : AFn Tryz.prog 10 [.agg [.int .i64 m, .sl false 27 (rowsF t)], .agg [.int .i64 ma, .sl false 2 (intL la)], .agg [.int .i64 mb, .sl false 2 (intL lb)]] (.tup [.agg [.int .i64 m, .sl true 27 (rowsO (bthT m t.length (pc t) (pwC m la (t.length - 1)) (pwC m lb (t.length - 1))))], .int .i64 0]) := by
  refine AFn.of' ttOk (by decide) Tryz.func10 Tryz.ntmps10 (by rw [Tryz.results10]) (by rfl) (by rfl) (by simp) (by decide) (by simp only [go_sem, Nat.reduceAdd, ↓reduceIte]; rfl) mixed (fun C hP hM hC => ?_)
  have hC1 := c_spec_l03Curves m ma mb t la lb hsh hla hlb
  rw [h] at hC1
  obtain ⟨f1, f2, rfl, rfl, f5, f6, f7, f8, f9, f10, f11, f12, f13⟩ := sbC_facts h
  have hV := c_spec_l03Both m t la lb t.length f1 f2 f5 f10 f8 f11 f9 f12 f13 (by omega) (by omega)
  (repeat (first | ((with_reducible refine rgn_cons rfl (fun K hK => ?_)); simp only [go_sem, seval, ↓reduceIte, decide_true, decide_false]; (first | refine hK _ _ _ (by simp only [go_sem, Nat.reduceEqDiff, ↓reduceIte]; rfl) ?_ | refine ⟨_, hC1, hK _ _ _ (by simp only [go_sem, Nat.reduceEqDiff, ↓reduceIte]; rfl) ?_⟩ | refine ⟨_, hV, hK _ _ _ (by simp only [go_sem, Nat.reduceEqDiff, ↓reduceIte]; rfl) ?_⟩ | refine ⟨_, c_spec_l03Make_su _ _, hK _ _ _ (by simp only [go_sem, Nat.reduceEqDiff, ↓reduceIte]; rfl) ?_⟩); clear hK; clear K) | (with_reducible first | refine rgn_nil (by first | trivial | kernel_rfl) ?_ | refine AWP.seq ?_ | refine tX hC hP (by kernel_rfl) ?_ | refine aX hC hM hP (by kernel_rfl) ?_ | refine AWP.skip ?_ | refine AWP.label ?_ | refine AWP.exit ?_ | refine AWP.block ?_ | refine cTa ?_ | refine cFa ?_) | simp only [qS, Nat.reduceEqDiff, ↓reduceIte]))
  (refine AWP.ret ?_; refine retOk2 (by simp only [go_sem, seval, ↓reduceIte, decide_true, decide_false]; rfl) (by simp only [go_sem, seval, ↓reduceIte, decide_true, decide_false]; rfl) (by simp) ?_)
  rfl
set_option maxHeartbeats 1000000 in
theorem c_spec_SubstituteBoth_no (m ma mb : Int) (t : List (List Int)) (la lb : List Int) (hsh : Shp t) (hla : la.length ≤ 1000) (hlb : lb.length ≤ 1000) (ha0 : 1 ≤ la.length) (hb0 : 1 ≤ lb.length) (h : sbC m t ma la mb lb ≠ 0) : AFn Tryz.prog 10 [.agg [.int .i64 m, .sl false 27 (rowsF t)], .agg [.int .i64 ma, .sl false 2 (intL la)], .agg [.int .i64 mb, .sl false 2 (intL lb)]] (.tup [.agg [.int .i64 0, .nil], .int .i64 (sbC m t ma la mb lb)]) := by
  refine AFn.of' ttOk (by decide) Tryz.func10 Tryz.ntmps10 (by rw [Tryz.results10]) (by rfl) (by rfl) (by simp) (by decide) (by simp only [go_sem, Nat.reduceAdd, ↓reduceIte]; rfl) mixed (fun C hP hM hC => ?_)
  have hC1 := c_spec_l03Curves m ma mb t la lb hsh hla hlb
  (repeat (first | ((with_reducible refine rgn_cons rfl (fun K hK => ?_)); simp only [go_sem, seval, ↓reduceIte, decide_true, decide_false, show (sbC m t ma la mb lb != 0) = true by rw [bne_iff_ne]; exact h]; (first | refine hK _ _ _ (by simp only [go_sem, Nat.reduceEqDiff, ↓reduceIte]; rfl) ?_ | refine ⟨_, hC1, hK _ _ _ (by simp only [go_sem, Nat.reduceEqDiff, ↓reduceIte]; rfl) ?_⟩); clear hK; clear K) | (with_reducible first | refine rgn_nil (by first | trivial | kernel_rfl) ?_ | refine AWP.seq ?_ | refine tX hC hP (by kernel_rfl) ?_ | refine aX hC hM hP (by kernel_rfl) ?_ | refine AWP.skip ?_ | refine AWP.label ?_ | refine AWP.exit ?_ | refine AWP.block ?_ | refine cTa ?_ | refine cFa ?_) | simp only [qS, Nat.reduceEqDiff, ↓reduceIte]))
  (refine AWP.ret ?_; refine retOk2 (by simp only [go_sem, seval, ↓reduceIte, decide_true, decide_false]; rfl) (by simp only [go_sem, seval, ↓reduceIte, decide_true, decide_false]; rfl) (by simp) ?_)
  rfl
-- A series of a plane.
def apC (ma : Int) (la : List Int) (m : Int) (t : List (List Int)) : Int := if isPl m t = true ∧ isSer ma la = true then (if m = ma ∧ t.length = la.length then (if (pc t 0 0 == 0) = true then 0 else 5) else 2) else 1
theorem apC_facts {m : Int} {t : List (List Int)} {ma : Int} {la : List Int} (h : apC ma la m t = 0) : 1 < m ∧ m ≤ 10000 ∧ m = ma ∧ Pl m t.length t ∧ 2 ≤ t.length ∧ t.length ≤ 11 ∧ la.length = t.length ∧ (∀ x ∈ la, 0 ≤ x ∧ x < m) ∧ pc t 0 0 = 0 ∧ isSer m la = true ∧ isPl m t = true := by
  unfold apC at h
  split at h
  · rename_i h1
    split at h
    · rename_i h2
      obtain ⟨rfl, h2⟩ := h2
      split at h
      · rename_i h3
        have hp := isPl_of h1.1
        exact ⟨by have := hp.1; omega, hp.2.1, rfl, hp.2.2.2.2, hp.2.2.1, hp.2.2.2.1, h2.symm, serNum h1.2, beq_iff_eq.1 h3, h1.2, h1.1⟩
      · cases h
    · cases h
  · cases h
theorem apC_ft {ma m : Int} {la : List Int} {t : List (List Int)} : apC ma la m t = if ftC m t [(ma, la)] = 0 then (if (pc t 0 0 == 0) = true then 0 else 5) else ftC m t [(ma, la)] := by
  have hA : (∀ i, i < [(ma, la)].length → isSer ([(ma, la)].getD i (0, [])).1 ([(ma, la)].getD i (0, [])).2 = true) ↔ isSer ma la = true := by
    constructor
    · intro h; exact h 0 (by simp)
    · intro h i hi
      have : i = 0 := by simp at hi; omega
      subst this; exact h
  have hB : (∀ i, i < [(ma, la)].length → ([(ma, la)].getD i (0, [])).1 = m ∧ ([(ma, la)].getD i (0, [])).2.length = t.length) ↔ (m = ma ∧ t.length = la.length) := by
    constructor
    · intro h
      have h0 := h 0 (by simp)
      exact ⟨h0.1.symm, h0.2.symm⟩
    · intro h i hi
      have : i = 0 := by simp at hi; omega
      subst this; exact ⟨h.1.symm, h.2.symm⟩
  unfold ftC apC
  simp only [hA, hB]
  split
  · split
    · rw [if_pos rfl]
    · rw [if_neg (by decide)]
  · rw [if_neg (by decide)]
theorem pc00 {t : List (List Int)} : pc t 0 0 = (t.getD 0 []).getD 0 0 := rfl
theorem row00 {m : Int} {t : List (List Int)} (h : isPl m t = true) : 0 < t.length ∧ 0 < (t.getD 0 []).length := by
  have hp := isPl_of h
  have := hp.2.2.2.2.row 0 (by omega)
  omega
set_option maxHeartbeats 2000000 in
theorem c_impl_ApplySeries_ok (ma m : Int) (la : List Int) (t : List (List Int)) (hsh : Shp t) (hla : la.length ≤ 1000) (h : apC ma la m t = 0) : AFn Tryz.prog 17 [.agg [.int .i64 ma, .sl false 2 (intL la)], .agg [.int .i64 m, .sl false 27 (rowsF t)]] (.tup [.agg [.int .i64 m, .sl true 27 (rowsO (aftL m t.length (pc t) la la.length))], .int .i64 0]) := by
  refine AFn.of' ttOk (by decide) Tryz.func17 Tryz.ntmps17 (by rw [Tryz.results17]) (by rfl) (by rfl) (by simp) (by decide) (by simp only [go_sem, Nat.reduceAdd, ↓reduceIte]; rfl) mixed (fun C hP hM hC => ?_)
  obtain ⟨f1, f2, rfl, f5, f6, f7, f8, f9, f10, f11, f12⟩ := apC_facts h
  have hA := c_impl_IsSeries m la (by omega)
  have hP1 := c_impl_IsPlane m t hsh.sm
  have hFa := c_impl_Plane_fits m m t la (by omega) (by omega)
  rw [f11] at hA
  rw [f12] at hP1
  rw [decide_eq_true ⟨rfl, f8.symm⟩] at hFa
  have hr := row00 f12
  have hV := c_impl_Series_of m la t t.length (by omega) f2 f5 f9 (by omega) (by omega) (by omega)
  (repeat (first | ((with_reducible refine rgn_cons rfl (fun K hK => ?_)); simp only [go_sem, seval, ↓reduceIte, decide_true, decide_false, rowsF_length, show (0 : Int) < (t.length : Int) by omega, Int.le_refl, Int.toNat_zero, rowsF_getD t 0 hr.1, intL_getD _ 0 hr.2, show (0 : Int) < ((t.getD 0 []).length : Int) by omega, ← pc00, f10, bne_self_eq_false]; (first | refine hK _ _ _ (by simp only [go_sem, Nat.reduceEqDiff, ↓reduceIte]; rfl) ?_ | refine ⟨_, hA, hK _ _ _ (by simp only [go_sem, Nat.reduceEqDiff, ↓reduceIte]; rfl) ?_⟩ | refine ⟨_, hP1, hK _ _ _ (by simp only [go_sem, Nat.reduceEqDiff, ↓reduceIte]; rfl) ?_⟩ | refine ⟨_, hFa, hK _ _ _ (by simp only [go_sem, Nat.reduceEqDiff, ↓reduceIte]; rfl) ?_⟩ | refine ⟨_, hV, hK _ _ _ (by simp only [go_sem, Nat.reduceEqDiff, ↓reduceIte]; rfl) ?_⟩); clear hK; clear K) | (with_reducible first | refine rgn_nil (by first | trivial | kernel_rfl) ?_ | refine AWP.seq ?_ | refine tX hC hP (by kernel_rfl) ?_ | refine aX hC hM hP (by kernel_rfl) ?_ | refine AWP.skip ?_ | refine AWP.label ?_ | refine AWP.exit ?_ | refine AWP.block ?_ | refine cTa ?_ | refine cFa ?_) | simp only [qS, Nat.reduceEqDiff, ↓reduceIte]))
  (refine AWP.ret ?_; refine retOk2 (by simp only [go_sem, seval, ↓reduceIte, decide_true, decide_false]; rfl) (by simp only [go_sem, seval, ↓reduceIte, decide_true, decide_false]; rfl) (by simp) ?_)
  rfl
set_option maxHeartbeats 2000000 in
theorem c_impl_ApplySeries_no (ma m : Int) (la : List Int) (t : List (List Int)) (hsh : Shp t) (hla : la.length ≤ 1000) (h : apC ma la m t ≠ 0) : AFn Tryz.prog 17 [.agg [.int .i64 ma, .sl false 2 (intL la)], .agg [.int .i64 m, .sl false 27 (rowsF t)]] (.tup [.agg [.int .i64 0, .nil], .int .i64 (apC ma la m t)]) := by
  refine AFn.of' ttOk (by decide) Tryz.func17 Tryz.ntmps17 (by rw [Tryz.results17]) (by rfl) (by rfl) (by simp) (by decide) (by simp only [go_sem, Nat.reduceAdd, ↓reduceIte]; rfl) mixed (fun C hP hM hC => ?_)
  have ht := hsh.1
  have hA := c_impl_IsSeries ma la (by omega)
  have hP1 := c_impl_IsPlane m t hsh.sm
  have hFa := c_impl_Plane_fits m ma t la (by omega) (by omega)
  cases g1 : isSer ma la with
  | false =>
    rw [g1] at hA
    (repeat (first | ((with_reducible refine rgn_cons rfl (fun K hK => ?_)); simp only [go_sem, seval, ↓reduceIte, decide_true, decide_false]; (first | refine hK _ _ _ (by simp only [go_sem, Nat.reduceEqDiff, ↓reduceIte]; rfl) ?_ | refine ⟨_, hA, hK _ _ _ (by simp only [go_sem, Nat.reduceEqDiff, ↓reduceIte]; rfl) ?_⟩); clear hK; clear K) | (with_reducible first | refine rgn_nil (by first | trivial | kernel_rfl) ?_ | refine AWP.seq ?_ | refine tX hC hP (by kernel_rfl) ?_ | refine aX hC hM hP (by kernel_rfl) ?_ | refine AWP.skip ?_ | refine AWP.label ?_ | refine AWP.exit ?_ | refine AWP.block ?_ | refine cTa ?_ | refine cFa ?_) | simp only [qS, Nat.reduceEqDiff, ↓reduceIte]))
    (refine AWP.ret ?_; refine retOk2 (by simp only [go_sem, seval, ↓reduceIte, decide_true, decide_false]; rfl) (by simp only [go_sem, seval, ↓reduceIte, decide_true, decide_false]; rfl) (by simp) ?_)
    rw [apC, if_neg (by rw [g1]; exact fun h => by cases h.2)]
  | true =>
    rw [g1] at hA
    cases g2 : isPl m t with
    | false =>
      rw [g2] at hP1
      (repeat (first | ((with_reducible refine rgn_cons rfl (fun K hK => ?_)); simp only [go_sem, seval, ↓reduceIte, decide_true, decide_false]; (first | refine hK _ _ _ (by simp only [go_sem, Nat.reduceEqDiff, ↓reduceIte]; rfl) ?_ | refine ⟨_, hA, hK _ _ _ (by simp only [go_sem, Nat.reduceEqDiff, ↓reduceIte]; rfl) ?_⟩ | refine ⟨_, hP1, hK _ _ _ (by simp only [go_sem, Nat.reduceEqDiff, ↓reduceIte]; rfl) ?_⟩); clear hK; clear K) | (with_reducible first | refine rgn_nil (by first | trivial | kernel_rfl) ?_ | refine AWP.seq ?_ | refine tX hC hP (by kernel_rfl) ?_ | refine aX hC hM hP (by kernel_rfl) ?_ | refine AWP.skip ?_ | refine AWP.label ?_ | refine AWP.exit ?_ | refine AWP.block ?_ | refine cTa ?_ | refine cFa ?_) | simp only [qS, Nat.reduceEqDiff, ↓reduceIte]))
      (refine AWP.ret ?_; refine retOk2 (by simp only [go_sem, seval, ↓reduceIte, decide_true, decide_false]; rfl) (by simp only [go_sem, seval, ↓reduceIte, decide_true, decide_false]; rfl) (by simp) ?_)
      rw [apC, if_neg (by rw [g2]; exact fun h => by cases h.1)]
    | true =>
      rw [g2] at hP1
      by_cases g3 : m = ma ∧ t.length = la.length
      · rw [decide_eq_true g3] at hFa
        have hr := row00 g2
        have g4 : pc t 0 0 ≠ 0 := fun e => h (by rw [apC, if_pos ⟨g2, g1⟩, if_pos g3, e]; rfl)
        (repeat (first | ((with_reducible refine rgn_cons rfl (fun K hK => ?_)); simp only [go_sem, seval, ↓reduceIte, decide_true, decide_false, rowsF_length, show (0 : Int) < (t.length : Int) by omega, Int.le_refl, Int.toNat_zero, rowsF_getD t 0 hr.1, intL_getD _ 0 hr.2, show (0 : Int) < ((t.getD 0 []).length : Int) by omega, ← pc00, show (pc t 0 0 != 0) = true by rw [bne_iff_ne]; exact g4]; (first | refine hK _ _ _ (by simp only [go_sem, Nat.reduceEqDiff, ↓reduceIte]; rfl) ?_ | refine ⟨_, hA, hK _ _ _ (by simp only [go_sem, Nat.reduceEqDiff, ↓reduceIte]; rfl) ?_⟩ | refine ⟨_, hP1, hK _ _ _ (by simp only [go_sem, Nat.reduceEqDiff, ↓reduceIte]; rfl) ?_⟩ | refine ⟨_, hFa, hK _ _ _ (by simp only [go_sem, Nat.reduceEqDiff, ↓reduceIte]; rfl) ?_⟩); clear hK; clear K) | (with_reducible first | refine rgn_nil (by first | trivial | kernel_rfl) ?_ | refine AWP.seq ?_ | refine tX hC hP (by kernel_rfl) ?_ | refine aX hC hM hP (by kernel_rfl) ?_ | refine AWP.skip ?_ | refine AWP.label ?_ | refine AWP.exit ?_ | refine AWP.block ?_ | refine cTa ?_ | refine cFa ?_) | simp only [qS, Nat.reduceEqDiff, ↓reduceIte]))
        (refine AWP.ret ?_; refine retOk2 (by simp only [go_sem, seval, ↓reduceIte, decide_true, decide_false]; rfl) (by simp only [go_sem, seval, ↓reduceIte, decide_true, decide_false]; rfl) (by simp) ?_)
        rw [apC, if_pos ⟨g2, g1⟩, if_pos g3, if_neg (fun e => g4 (beq_iff_eq.1 e))]
      · rw [decide_eq_false g3] at hFa
        (repeat (first | ((with_reducible refine rgn_cons rfl (fun K hK => ?_)); simp only [go_sem, seval, ↓reduceIte, decide_true, decide_false]; (first | refine hK _ _ _ (by simp only [go_sem, Nat.reduceEqDiff, ↓reduceIte]; rfl) ?_ | refine ⟨_, hA, hK _ _ _ (by simp only [go_sem, Nat.reduceEqDiff, ↓reduceIte]; rfl) ?_⟩ | refine ⟨_, hP1, hK _ _ _ (by simp only [go_sem, Nat.reduceEqDiff, ↓reduceIte]; rfl) ?_⟩ | refine ⟨_, hFa, hK _ _ _ (by simp only [go_sem, Nat.reduceEqDiff, ↓reduceIte]; rfl) ?_⟩); clear hK; clear K) | (with_reducible first | refine rgn_nil (by first | trivial | kernel_rfl) ?_ | refine AWP.seq ?_ | refine tX hC hP (by kernel_rfl) ?_ | refine aX hC hM hP (by kernel_rfl) ?_ | refine AWP.skip ?_ | refine AWP.label ?_ | refine AWP.exit ?_ | refine AWP.block ?_ | refine cTa ?_ | refine cFa ?_) | simp only [qS, Nat.reduceEqDiff, ↓reduceIte]))
        (refine AWP.ret ?_; refine retOk2 (by simp only [go_sem, seval, ↓reduceIte, decide_true, decide_false]; rfl) (by simp only [go_sem, seval, ↓reduceIte, decide_true, decide_false]; rfl) (by simp) ?_)
        rw [apC, if_pos ⟨g2, g1⟩, if_neg g3]
set_option maxHeartbeats 2000000 in
theorem c_spec_ApplySeries_ok (ma m : Int) (la : List Int) (t : List (List Int)) (hsh : Shp t) (hla : la.length ≤ 1000) (h : apC ma la m t = 0) : AFn Tryz.prog 18 [.agg [.int .i64 ma, .sl false 2 (intL la)], .agg [.int .i64 m, .sl false 27 (rowsF t)]] (.tup [.agg [.int .i64 m, .sl true 27 (rowsO (aftL m t.length (pc t) la la.length))], .int .i64 0]) := by
  refine AFn.of' ttOk (by decide) Tryz.func18 Tryz.ntmps18 (by rw [Tryz.results18]) (by rfl) (by rfl) (by simp) (by decide) (by simp only [go_sem, Nat.reduceAdd, ↓reduceIte]; rfl) mixed (fun C hP hM hC => ?_)
  have hF := c_spec_l03Fits m t [(ma, la)] hsh (by simp) (fun i hi => by
    have : i = 0 := by simp at hi; omega
    subst this; exact hla)
  simp only [serL, List.map_cons, List.map_nil] at hF
  have hz : ftC m t [(ma, la)] = 0 := by
    apply Classical.byContradiction
    intro hn
    rw [apC_ft, if_neg hn] at h
    exact hn h
  rw [hz] at hF
  obtain ⟨f1, f2, rfl, f5, f6, f7, f8, f9, f10, f11, f12⟩ := apC_facts h
  have hr := row00 f12
  have hV := c_spec_l03After m la t t.length (by omega) f2 f5 f9 (by omega) (by omega) (by omega)
  (repeat (first | ((with_reducible refine rgn_cons rfl (fun K hK => ?_)); simp only [go_sem, seval, ↓reduceIte, decide_true, decide_false, rowsF_length, show (0 : Int) < (t.length : Int) by omega, Int.le_refl, Int.toNat_zero, rowsF_getD t 0 hr.1, intL_getD _ 0 hr.2, show (0 : Int) < ((t.getD 0 []).length : Int) by omega, ← pc00, f10, bne_self_eq_false]; (first | refine hK _ _ _ (by simp only [go_sem, Nat.reduceEqDiff, ↓reduceIte]; rfl) ?_ | refine ⟨_, hF, hK _ _ _ (by simp only [go_sem, Nat.reduceEqDiff, ↓reduceIte]; rfl) ?_⟩ | refine ⟨_, hV, hK _ _ _ (by simp only [go_sem, Nat.reduceEqDiff, ↓reduceIte]; rfl) ?_⟩ | refine ⟨_, c_spec_l03Make_su _ _, hK _ _ _ (by simp only [go_sem, Nat.reduceEqDiff, ↓reduceIte]; rfl) ?_⟩); clear hK; clear K) | (with_reducible first | refine rgn_nil (by first | trivial | kernel_rfl) ?_ | refine AWP.seq ?_ | refine tX hC hP (by kernel_rfl) ?_ | refine aX hC hM hP (by kernel_rfl) ?_ | refine AWP.skip ?_ | refine AWP.label ?_ | refine AWP.exit ?_ | refine AWP.block ?_ | refine cTa ?_ | refine cFa ?_) | simp only [qS, Nat.reduceEqDiff, ↓reduceIte]))
  (refine AWP.ret ?_; refine retOk2 (by simp only [go_sem, seval, ↓reduceIte, decide_true, decide_false]; rfl) (by simp only [go_sem, seval, ↓reduceIte, decide_true, decide_false]; rfl) (by simp) ?_)
  rfl
set_option maxHeartbeats 2000000 in
theorem c_spec_ApplySeries_no (ma m : Int) (la : List Int) (t : List (List Int)) (hsh : Shp t) (hla : la.length ≤ 1000) (h : apC ma la m t ≠ 0) : AFn Tryz.prog 18 [.agg [.int .i64 ma, .sl false 2 (intL la)], .agg [.int .i64 m, .sl false 27 (rowsF t)]] (.tup [.agg [.int .i64 0, .nil], .int .i64 (apC ma la m t)]) := by
  refine AFn.of' ttOk (by decide) Tryz.func18 Tryz.ntmps18 (by rw [Tryz.results18]) (by rfl) (by rfl) (by simp) (by decide) (by simp only [go_sem, Nat.reduceAdd, ↓reduceIte]; rfl) mixed (fun C hP hM hC => ?_)
  have hF := c_spec_l03Fits m t [(ma, la)] hsh (by simp) (fun i hi => by
    have : i = 0 := by simp at hi; omega
    subst this; exact hla)
  simp only [serL, List.map_cons, List.map_nil] at hF
  by_cases g : ftC m t [(ma, la)] = 0
  · have hr := row00 (ftC_ser g).1
    have g4 : pc t 0 0 ≠ 0 := fun e => h (by rw [apC_ft, if_pos g, e]; rfl)
    rw [g] at hF
    rw [apC_ft, if_pos g, if_neg (fun e => g4 (beq_iff_eq.1 e))]
    (repeat (first | ((with_reducible refine rgn_cons rfl (fun K hK => ?_)); simp only [go_sem, seval, ↓reduceIte, decide_true, decide_false, rowsF_length, show (0 : Int) < (t.length : Int) by omega, Int.le_refl, Int.toNat_zero, rowsF_getD t 0 hr.1, intL_getD _ 0 hr.2, show (0 : Int) < ((t.getD 0 []).length : Int) by omega, ← pc00, show (pc t 0 0 != 0) = true by rw [bne_iff_ne]; exact g4, show ((5 : Int) != 0) = true from rfl]; (first | refine hK _ _ _ (by simp only [go_sem, Nat.reduceEqDiff, ↓reduceIte]; rfl) ?_ | refine ⟨_, hF, hK _ _ _ (by simp only [go_sem, Nat.reduceEqDiff, ↓reduceIte]; rfl) ?_⟩); clear hK; clear K) | (with_reducible first | refine rgn_nil (by first | trivial | kernel_rfl) ?_ | refine AWP.seq ?_ | refine tX hC hP (by kernel_rfl) ?_ | refine aX hC hM hP (by kernel_rfl) ?_ | refine AWP.skip ?_ | refine AWP.label ?_ | refine AWP.exit ?_ | refine AWP.block ?_ | refine cTa ?_ | refine cFa ?_) | simp only [qS, Nat.reduceEqDiff, ↓reduceIte]))
    (refine AWP.ret ?_; refine retOk2 (by simp only [go_sem, seval, ↓reduceIte, decide_true, decide_false]; rfl) (by simp only [go_sem, seval, ↓reduceIte, decide_true, decide_false]; rfl) (by simp) ?_)
    rfl
  · rw [apC_ft, if_neg g]
    (repeat (first | ((with_reducible refine rgn_cons rfl (fun K hK => ?_)); simp only [go_sem, seval, ↓reduceIte, decide_true, decide_false, show (ftC m t [(ma, la)] == 0) = false by rw [beq_eq_false_iff_ne]; exact g, show (ftC m t [(ma, la)] != 0) = true by rw [bne_iff_ne]; exact g]; (first | refine hK _ _ _ (by simp only [go_sem, Nat.reduceEqDiff, ↓reduceIte]; rfl) ?_ | refine ⟨_, hF, hK _ _ _ (by simp only [go_sem, Nat.reduceEqDiff, ↓reduceIte]; rfl) ?_⟩); clear hK; clear K) | (with_reducible first | refine rgn_nil (by first | trivial | kernel_rfl) ?_ | refine AWP.seq ?_ | refine tX hC hP (by kernel_rfl) ?_ | refine aX hC hM hP (by kernel_rfl) ?_ | refine AWP.skip ?_ | refine AWP.label ?_ | refine AWP.exit ?_ | refine AWP.block ?_ | refine cTa ?_ | refine cFa ?_) | simp only [qS, Nat.reduceEqDiff, ↓reduceIte]))
    (refine AWP.ret ?_; refine retOk2 (by simp only [go_sem, seval, ↓reduceIte, decide_true, decide_false]; rfl) (by simp only [go_sem, seval, ↓reduceIte, decide_true, decide_false]; rfl) (by simp) ?_)
    rfl
end Go.Proofs.YtapdekacpecgiaaGreat
