/-
  Substitutions in the program and in the reference.
-/
import Derived.Test.YtapdekacpecgiaaGreatSb
import Derived.Test.YtapdekacpecgiaaGreatSx
import Derived.Test.YtapdekacpecgiaaGreatIb
import Derived.Test.YtapdekacpecgiaaGreatIc
import Derived.Test.YtapdekacpecgiaaGreatId
import Derived.Test.YtapdekacpecgiaaGreatQh
import Derived.Test.YtapdekacpecgiaaGreatQc
import Derived.Test.YtapdekacpecgiaaGreatQa
import Derived.Test.YtapdekacpecgiaaGreatRn
import Derived.Test.YtapdekacpecgiaaGreatBy
namespace Go.Proofs.YtapdekacpecgiaaGreat
open Go.RowKit
set_option linter.unusedSimpArgs false
set_option linter.unusedVariables false
set_option linter.unusedSectionVars false
set_option maxRecDepth 20000
-- Substitutions in the program and in the reference.
theorem serNum {m : Int} {l : List Int} (h : isSer m l = true) : ∀ x ∈ l, 0 ≤ x ∧ x < m := fun x hx => by
  have := (isSer_len h).2.2.2.2 x hx; omega
set_option maxHeartbeats 1000000 in
theorem c_impl_IsCurve (m : Int) (l : List Int) (hl : l.length ≤ 1000) (h0 : 0 < l.length) : AFn Tryz.prog 95 [.agg [.int .i64 m, .sl false 2 (intL l)]] (.bool (isSer m l && (l.getD 0 0 == 0))) := by
  refine AFn.of' ttOk (by decide) Tryz.func95 Tryz.ntmps95 (by rw [Tryz.results95]) (by rfl) (by rfl) (by simp) (by decide) (by simp only [go_sem, Nat.reduceAdd, ↓reduceIte]; rfl) mixed (fun C hP hM hC => ?_)
  have hA := c_impl_IsSeries m l (by omega)
  cases g : isSer m l with
  | false =>
    rw [g] at hA
    (repeat (first | ((with_reducible refine rgn_cons rfl (fun K hK => ?_)); simp only [go_sem, seval, ↓reduceIte, decide_true, decide_false]; (first | refine hK _ _ _ (by simp only [go_sem, Nat.reduceEqDiff, ↓reduceIte]; rfl) ?_ | refine ⟨_, hA, hK _ _ _ (by simp only [go_sem, Nat.reduceEqDiff, ↓reduceIte]; rfl) ?_⟩); clear hK; clear K) | (with_reducible first | refine rgn_nil (by first | trivial | kernel_rfl) ?_ | refine AWP.seq ?_ | refine tX hC hP (by kernel_rfl) ?_ | refine aX hC hM hP (by kernel_rfl) ?_ | refine AWP.skip ?_ | refine AWP.label ?_ | refine AWP.exit ?_ | refine AWP.block ?_ | refine cTa ?_ | refine cFa ?_) | simp only [qS, Nat.reduceEqDiff, ↓reduceIte]))
    (refine AWP.ret ?_; refine retOk1 (by simp only [go_sem, seval, ↓reduceIte, decide_true, decide_false]; rfl) ?_)
    rfl
  | true =>
    rw [g] at hA
    (repeat (first | ((with_reducible refine rgn_cons rfl (fun K hK => ?_)); simp only [go_sem, seval, ↓reduceIte, decide_true, decide_false, show (0 : Int) < (l.length : Int) by omega, Int.le_refl, Int.toNat_zero, intL_getD l 0 h0]; (first | refine hK _ _ _ (by simp only [go_sem, Nat.reduceEqDiff, ↓reduceIte]; rfl) ?_ | refine ⟨_, hA, hK _ _ _ (by simp only [go_sem, Nat.reduceEqDiff, ↓reduceIte]; rfl) ?_⟩); clear hK; clear K) | (with_reducible first | refine rgn_nil (by first | trivial | kernel_rfl) ?_ | refine AWP.seq ?_ | refine tX hC hP (by kernel_rfl) ?_ | refine aX hC hM hP (by kernel_rfl) ?_ | refine AWP.skip ?_ | refine AWP.label ?_ | refine AWP.exit ?_ | refine AWP.block ?_ | refine cTa ?_ | refine cFa ?_) | simp only [qS, Nat.reduceEqDiff, ↓reduceIte]))
    (refine AWP.ret ?_; refine retOk1 (by simp only [go_sem, seval, ↓reduceIte, decide_true, decide_false]; rfl) ?_)
    rfl
def sbC (m : Int) (t : List (List Int)) (ma : Int) (la : List Int) (mb : Int) (lb : List Int) : Int :=
  if isPl m t = true ∧ isSer ma la = true ∧ isSer mb lb = true then (if (m = ma ∧ t.length = la.length) ∧ m = mb ∧ t.length = lb.length then (if (la.getD 0 0 == 0) = true ∧ (lb.getD 0 0 == 0) = true then 0 else 5) else 2) else 1
section
variable {m : Int} {t : List (List Int)} {ma mb : Int} {la lb : List Int}
theorem sbC_1 (h : ¬ (isPl m t = true ∧ isSer ma la = true ∧ isSer mb lb = true)) : sbC m t ma la mb lb = 1 := if_neg h
theorem sbC_2 (h : isPl m t = true ∧ isSer ma la = true ∧ isSer mb lb = true) (h2 : ¬ ((m = ma ∧ t.length = la.length) ∧ m = mb ∧ t.length = lb.length)) : sbC m t ma la mb lb = 2 := by rw [sbC, if_pos h, if_neg h2]
theorem sbC_5 (h : isPl m t = true ∧ isSer ma la = true ∧ isSer mb lb = true) (h2 : (m = ma ∧ t.length = la.length) ∧ m = mb ∧ t.length = lb.length) (h3 : ¬ ((la.getD 0 0 == 0) = true ∧ (lb.getD 0 0 == 0) = true)) : sbC m t ma la mb lb = 5 := by rw [sbC, if_pos h, if_pos h2, if_neg h3]
theorem sbC_0 (h : isPl m t = true ∧ isSer ma la = true ∧ isSer mb lb = true) (h2 : (m = ma ∧ t.length = la.length) ∧ m = mb ∧ t.length = lb.length) (h3 : (la.getD 0 0 == 0) = true ∧ (lb.getD 0 0 == 0) = true) : sbC m t ma la mb lb = 0 := by rw [sbC, if_pos h, if_pos h2, if_pos h3]
theorem sbC_ok (h : sbC m t ma la mb lb = 0) : (isPl m t = true ∧ isSer ma la = true ∧ isSer mb lb = true) ∧ ((m = ma ∧ t.length = la.length) ∧ m = mb ∧ t.length = lb.length) ∧ at' la 0 = 0 ∧ at' lb 0 = 0 := by
  unfold sbC at h
  split at h
  · rename_i h1
    split at h
    · rename_i h2
      split at h
      · rename_i h3
        exact ⟨h1, h2, beq_iff_eq.1 h3.1, beq_iff_eq.1 h3.2⟩
      · cases h
    · cases h
  · cases h
end
set_option maxHeartbeats 2000000 in
theorem c_impl_substitutable (m ma mb : Int) (t : List (List Int)) (la lb : List Int) (hsh : Shp t) (hla : la.length ≤ 1000) (hlb : lb.length ≤ 1000) (ha0 : 1 ≤ la.length) (hb0 : 1 ≤ lb.length) : AFn Tryz.prog 71 [.agg [.int .i64 m, .sl false 27 (rowsF t)], .agg [.int .i64 ma, .sl false 2 (intL la)], .agg [.int .i64 mb, .sl false 2 (intL lb)]] (.int .i64 (sbC m t ma la mb lb)) := by
  refine AFn.of' ttOk (by decide) Tryz.func71 Tryz.ntmps71 (by rw [Tryz.results71]) (by rfl) (by rfl) (by simp) (by decide) (by simp only [go_sem, Nat.reduceAdd, ↓reduceIte]; rfl) mixed (fun C hP hM hC => ?_)
  have ht := hsh.1
  have hP1 := c_impl_IsPlane m t hsh.sm
  have hA := c_impl_IsSeries ma la (by omega)
  have hB1 := c_impl_IsSeries mb lb (by omega)
  have hFa := c_impl_Plane_fits m ma t la (by omega) (by omega)
  have hFb := c_impl_Plane_fits m mb t lb (by omega) (by omega)
  have hCa := c_impl_IsCurve ma la (by omega) (by omega)
  have hCb := c_impl_IsCurve mb lb (by omega) (by omega)
  cases g1 : isPl m t with
  | false =>
    rw [g1] at hP1
    (repeat (first | ((with_reducible refine rgn_cons rfl (fun K hK => ?_)); simp only [go_sem, seval, ↓reduceIte, decide_true, decide_false]; (first | refine hK _ _ _ (by simp only [go_sem, Nat.reduceEqDiff, ↓reduceIte]; rfl) ?_ | refine ⟨_, hP1, hK _ _ _ (by simp only [go_sem, Nat.reduceEqDiff, ↓reduceIte]; rfl) ?_⟩); clear hK; clear K) | (with_reducible first | refine rgn_nil (by first | trivial | kernel_rfl) ?_ | refine AWP.seq ?_ | refine tX hC hP (by kernel_rfl) ?_ | refine aX hC hM hP (by kernel_rfl) ?_ | refine AWP.skip ?_ | refine AWP.label ?_ | refine AWP.exit ?_ | refine AWP.block ?_ | refine cTa ?_ | refine cFa ?_) | simp only [qS, Nat.reduceEqDiff, ↓reduceIte]))
    (refine AWP.ret ?_; refine retOk1 (by simp only [go_sem, seval, ↓reduceIte, decide_true, decide_false]; rfl) ?_)
    rw [sbC_1 (by rw [g1]; exact fun h => by cases h.1)]
  | true =>
    rw [g1] at hP1
    cases g2 : isSer ma la with
    | false =>
      rw [g2] at hA
      (repeat (first | ((with_reducible refine rgn_cons rfl (fun K hK => ?_)); simp only [go_sem, seval, ↓reduceIte, decide_true, decide_false]; (first | refine hK _ _ _ (by simp only [go_sem, Nat.reduceEqDiff, ↓reduceIte]; rfl) ?_ | refine ⟨_, hP1, hK _ _ _ (by simp only [go_sem, Nat.reduceEqDiff, ↓reduceIte]; rfl) ?_⟩ | refine ⟨_, hA, hK _ _ _ (by simp only [go_sem, Nat.reduceEqDiff, ↓reduceIte]; rfl) ?_⟩); clear hK; clear K) | (with_reducible first | refine rgn_nil (by first | trivial | kernel_rfl) ?_ | refine AWP.seq ?_ | refine tX hC hP (by kernel_rfl) ?_ | refine aX hC hM hP (by kernel_rfl) ?_ | refine AWP.skip ?_ | refine AWP.label ?_ | refine AWP.exit ?_ | refine AWP.block ?_ | refine cTa ?_ | refine cFa ?_) | simp only [qS, Nat.reduceEqDiff, ↓reduceIte]))
      (refine AWP.ret ?_; refine retOk1 (by simp only [go_sem, seval, ↓reduceIte, decide_true, decide_false]; rfl) ?_)
      rw [sbC_1 (by rw [g2]; exact fun h => by cases h.2.1)]
    | true =>
      rw [g2] at hA hCa
      cases g3 : isSer mb lb with
      | false =>
        rw [g3] at hB1
        (repeat (first | ((with_reducible refine rgn_cons rfl (fun K hK => ?_)); simp only [go_sem, seval, ↓reduceIte, decide_true, decide_false]; (first | refine hK _ _ _ (by simp only [go_sem, Nat.reduceEqDiff, ↓reduceIte]; rfl) ?_ | refine ⟨_, hP1, hK _ _ _ (by simp only [go_sem, Nat.reduceEqDiff, ↓reduceIte]; rfl) ?_⟩ | refine ⟨_, hA, hK _ _ _ (by simp only [go_sem, Nat.reduceEqDiff, ↓reduceIte]; rfl) ?_⟩ | refine ⟨_, hB1, hK _ _ _ (by simp only [go_sem, Nat.reduceEqDiff, ↓reduceIte]; rfl) ?_⟩); clear hK; clear K) | (with_reducible first | refine rgn_nil (by first | trivial | kernel_rfl) ?_ | refine AWP.seq ?_ | refine tX hC hP (by kernel_rfl) ?_ | refine aX hC hM hP (by kernel_rfl) ?_ | refine AWP.skip ?_ | refine AWP.label ?_ | refine AWP.exit ?_ | refine AWP.block ?_ | refine cTa ?_ | refine cFa ?_) | simp only [qS, Nat.reduceEqDiff, ↓reduceIte]))
        (refine AWP.ret ?_; refine retOk1 (by simp only [go_sem, seval, ↓reduceIte, decide_true, decide_false]; rfl) ?_)
        rw [sbC_1 (by rw [g3]; exact fun h => by cases h.2.2)]
      | true =>
        rw [g3] at hB1 hCb
        rw [Bool.true_and] at hCa hCb
        by_cases g4 : m = ma ∧ t.length = la.length
        · rw [decide_eq_true g4] at hFa
          by_cases g5 : m = mb ∧ t.length = lb.length
          · rw [decide_eq_true g5] at hFb
            cases g6 : (la.getD 0 0 == 0) with
            | false =>
              rw [g6] at hCa
              (repeat (first | ((with_reducible refine rgn_cons rfl (fun K hK => ?_)); simp only [go_sem, seval, ↓reduceIte, decide_true, decide_false]; (first | refine hK _ _ _ (by simp only [go_sem, Nat.reduceEqDiff, ↓reduceIte]; rfl) ?_ | refine ⟨_, hP1, hK _ _ _ (by simp only [go_sem, Nat.reduceEqDiff, ↓reduceIte]; rfl) ?_⟩ | refine ⟨_, hA, hK _ _ _ (by simp only [go_sem, Nat.reduceEqDiff, ↓reduceIte]; rfl) ?_⟩ | refine ⟨_, hB1, hK _ _ _ (by simp only [go_sem, Nat.reduceEqDiff, ↓reduceIte]; rfl) ?_⟩ | refine ⟨_, hFa, hK _ _ _ (by simp only [go_sem, Nat.reduceEqDiff, ↓reduceIte]; rfl) ?_⟩ | refine ⟨_, hFb, hK _ _ _ (by simp only [go_sem, Nat.reduceEqDiff, ↓reduceIte]; rfl) ?_⟩ | refine ⟨_, hCa, hK _ _ _ (by simp only [go_sem, Nat.reduceEqDiff, ↓reduceIte]; rfl) ?_⟩); clear hK; clear K) | (with_reducible first | refine rgn_nil (by first | trivial | kernel_rfl) ?_ | refine AWP.seq ?_ | refine tX hC hP (by kernel_rfl) ?_ | refine aX hC hM hP (by kernel_rfl) ?_ | refine AWP.skip ?_ | refine AWP.label ?_ | refine AWP.exit ?_ | refine AWP.block ?_ | refine cTa ?_ | refine cFa ?_) | simp only [qS, Nat.reduceEqDiff, ↓reduceIte]))
              (refine AWP.ret ?_; refine retOk1 (by simp only [go_sem, seval, ↓reduceIte, decide_true, decide_false]; rfl) ?_)
              rw [sbC_5 ⟨g1, g2, g3⟩ ⟨g4, g5⟩ (by rw [g6]; exact fun h => by cases h.1)]
            | true =>
              rw [g6] at hCa
              cases g7 : (lb.getD 0 0 == 0) with
              | false =>
                rw [g7] at hCb
                (repeat (first | ((with_reducible refine rgn_cons rfl (fun K hK => ?_)); simp only [go_sem, seval, ↓reduceIte, decide_true, decide_false]; (first | refine hK _ _ _ (by simp only [go_sem, Nat.reduceEqDiff, ↓reduceIte]; rfl) ?_ | refine ⟨_, hP1, hK _ _ _ (by simp only [go_sem, Nat.reduceEqDiff, ↓reduceIte]; rfl) ?_⟩ | refine ⟨_, hA, hK _ _ _ (by simp only [go_sem, Nat.reduceEqDiff, ↓reduceIte]; rfl) ?_⟩ | refine ⟨_, hB1, hK _ _ _ (by simp only [go_sem, Nat.reduceEqDiff, ↓reduceIte]; rfl) ?_⟩ | refine ⟨_, hFa, hK _ _ _ (by simp only [go_sem, Nat.reduceEqDiff, ↓reduceIte]; rfl) ?_⟩ | refine ⟨_, hFb, hK _ _ _ (by simp only [go_sem, Nat.reduceEqDiff, ↓reduceIte]; rfl) ?_⟩ | refine ⟨_, hCa, hK _ _ _ (by simp only [go_sem, Nat.reduceEqDiff, ↓reduceIte]; rfl) ?_⟩ | refine ⟨_, hCb, hK _ _ _ (by simp only [go_sem, Nat.reduceEqDiff, ↓reduceIte]; rfl) ?_⟩); clear hK; clear K) | (with_reducible first | refine rgn_nil (by first | trivial | kernel_rfl) ?_ | refine AWP.seq ?_ | refine tX hC hP (by kernel_rfl) ?_ | refine aX hC hM hP (by kernel_rfl) ?_ | refine AWP.skip ?_ | refine AWP.label ?_ | refine AWP.exit ?_ | refine AWP.block ?_ | refine cTa ?_ | refine cFa ?_) | simp only [qS, Nat.reduceEqDiff, ↓reduceIte]))
                (refine AWP.ret ?_; refine retOk1 (by simp only [go_sem, seval, ↓reduceIte, decide_true, decide_false]; rfl) ?_)
                rw [sbC_5 ⟨g1, g2, g3⟩ ⟨g4, g5⟩ (by rw [g7]; exact fun h => by cases h.2)]
              | true =>
                rw [g7] at hCb
                (repeat (first | ((with_reducible refine rgn_cons rfl (fun K hK => ?_)); simp only [go_sem, seval, ↓reduceIte, decide_true, decide_false]; (first | refine hK _ _ _ (by simp only [go_sem, Nat.reduceEqDiff, ↓reduceIte]; rfl) ?_ | refine ⟨_, hP1, hK _ _ _ (by simp only [go_sem, Nat.reduceEqDiff, ↓reduceIte]; rfl) ?_⟩ | refine ⟨_, hA, hK _ _ _ (by simp only [go_sem, Nat.reduceEqDiff, ↓reduceIte]; rfl) ?_⟩ | refine ⟨_, hB1, hK _ _ _ (by simp only [go_sem, Nat.reduceEqDiff, ↓reduceIte]; rfl) ?_⟩ | refine ⟨_, hFa, hK _ _ _ (by simp only [go_sem, Nat.reduceEqDiff, ↓reduceIte]; rfl) ?_⟩ | refine ⟨_, hFb, hK _ _ _ (by simp only [go_sem, Nat.reduceEqDiff, ↓reduceIte]; rfl) ?_⟩ | refine ⟨_, hCa, hK _ _ _ (by simp only [go_sem, Nat.reduceEqDiff, ↓reduceIte]; rfl) ?_⟩ | refine ⟨_, hCb, hK _ _ _ (by simp only [go_sem, Nat.reduceEqDiff, ↓reduceIte]; rfl) ?_⟩); clear hK; clear K) | (with_reducible first | refine rgn_nil (by first | trivial | kernel_rfl) ?_ | refine AWP.seq ?_ | refine tX hC hP (by kernel_rfl) ?_ | refine aX hC hM hP (by kernel_rfl) ?_ | refine AWP.skip ?_ | refine AWP.label ?_ | refine AWP.exit ?_ | refine AWP.block ?_ | refine cTa ?_ | refine cFa ?_) | simp only [qS, Nat.reduceEqDiff, ↓reduceIte]))
                (refine AWP.ret ?_; refine retOk1 (by simp only [go_sem, seval, ↓reduceIte, decide_true, decide_false]; rfl) ?_)
                rw [sbC_0 ⟨g1, g2, g3⟩ ⟨g4, g5⟩ ⟨g6, g7⟩]
          · rw [decide_eq_false g5] at hFb
            (repeat (first | ((with_reducible refine rgn_cons rfl (fun K hK => ?_)); simp only [go_sem, seval, ↓reduceIte, decide_true, decide_false]; (first | refine hK _ _ _ (by simp only [go_sem, Nat.reduceEqDiff, ↓reduceIte]; rfl) ?_ | refine ⟨_, hP1, hK _ _ _ (by simp only [go_sem, Nat.reduceEqDiff, ↓reduceIte]; rfl) ?_⟩ | refine ⟨_, hA, hK _ _ _ (by simp only [go_sem, Nat.reduceEqDiff, ↓reduceIte]; rfl) ?_⟩ | refine ⟨_, hB1, hK _ _ _ (by simp only [go_sem, Nat.reduceEqDiff, ↓reduceIte]; rfl) ?_⟩ | refine ⟨_, hFa, hK _ _ _ (by simp only [go_sem, Nat.reduceEqDiff, ↓reduceIte]; rfl) ?_⟩ | refine ⟨_, hFb, hK _ _ _ (by simp only [go_sem, Nat.reduceEqDiff, ↓reduceIte]; rfl) ?_⟩); clear hK; clear K) | (with_reducible first | refine rgn_nil (by first | trivial | kernel_rfl) ?_ | refine AWP.seq ?_ | refine tX hC hP (by kernel_rfl) ?_ | refine aX hC hM hP (by kernel_rfl) ?_ | refine AWP.skip ?_ | refine AWP.label ?_ | refine AWP.exit ?_ | refine AWP.block ?_ | refine cTa ?_ | refine cFa ?_) | simp only [qS, Nat.reduceEqDiff, ↓reduceIte]))
            (refine AWP.ret ?_; refine retOk1 (by simp only [go_sem, seval, ↓reduceIte, decide_true, decide_false]; rfl) ?_)
            rw [sbC_2 ⟨g1, g2, g3⟩ (fun h => g5 h.2)]
        · rw [decide_eq_false g4] at hFa
          (repeat (first | ((with_reducible refine rgn_cons rfl (fun K hK => ?_)); simp only [go_sem, seval, ↓reduceIte, decide_true, decide_false]; (first | refine hK _ _ _ (by simp only [go_sem, Nat.reduceEqDiff, ↓reduceIte]; rfl) ?_ | refine ⟨_, hP1, hK _ _ _ (by simp only [go_sem, Nat.reduceEqDiff, ↓reduceIte]; rfl) ?_⟩ | refine ⟨_, hA, hK _ _ _ (by simp only [go_sem, Nat.reduceEqDiff, ↓reduceIte]; rfl) ?_⟩ | refine ⟨_, hB1, hK _ _ _ (by simp only [go_sem, Nat.reduceEqDiff, ↓reduceIte]; rfl) ?_⟩ | refine ⟨_, hFa, hK _ _ _ (by simp only [go_sem, Nat.reduceEqDiff, ↓reduceIte]; rfl) ?_⟩); clear hK; clear K) | (with_reducible first | refine rgn_nil (by first | trivial | kernel_rfl) ?_ | refine AWP.seq ?_ | refine tX hC hP (by kernel_rfl) ?_ | refine aX hC hM hP (by kernel_rfl) ?_ | refine AWP.skip ?_ | refine AWP.label ?_ | refine AWP.exit ?_ | refine AWP.block ?_ | refine cTa ?_ | refine cFa ?_) | simp only [qS, Nat.reduceEqDiff, ↓reduceIte]))
          (refine AWP.ret ?_; refine retOk1 (by simp only [go_sem, seval, ↓reduceIte, decide_true, decide_false]; rfl) ?_)
          rw [sbC_2 ⟨g1, g2, g3⟩ (fun h => g4 h.1)]
-- The reference's check.
def serL (L : List (Int × List Int)) : List T := L.map fun x => (.agg [.int .i64 x.1, .sl false 2 (intL x.2)])
theorem serL_length (L : List (Int × List Int)) : (serL L).length = L.length := by simp [serL]
theorem serL_getD (L : List (Int × List Int)) (i : Nat) (h : i < L.length) : (serL L).getD i .any = (.agg [.int .i64 ((L.getD i (0, [])).1), .sl false 2 (intL ((L.getD i (0, [])).2))]) := by
  simp [serL, List.getD_eq_getElem?_getD, h]
theorem serL_pure : ∀ (L : List (Int × List Int)), T.pureL (serL L) = true
  | [] => rfl
  | x :: L => by have := serL_pure L; simp only [serL, List.map_cons, T.pureL, T.pure, Bool.not_false, Bool.true_and, intL_pure]; exact this
theorem serL_noOwn (L : List (Int × List Int)) : T.noOwnL (serL L) = true := pureL_noOwn _ (serL_pure L)
theorem serL_refFree (L : List (Int × List Int)) : T.refFreeL (serL L) = true := pureL_refFree _ (serL_pure L)
def ftC (m : Int) (t : List (List Int)) (L : List (Int × List Int)) : Int := if isPl m t = true ∧ (∀ i, i < L.length → isSer (L.getD i (0, [])).1 (L.getD i (0, [])).2 = true) then (if ∀ i, i < L.length → (L.getD i (0, [])).1 = m ∧ (L.getD i (0, [])).2.length = t.length then 0 else 2) else 1
set_option maxHeartbeats 4000000 in
theorem c_spec_l03Fits (m : Int) (t : List (List Int)) (L : List (Int × List Int)) (hsh : Shp t) (hL : L.length ≤ 10) (hLL : ∀ i, i < L.length → (L.getD i (0, [])).2.length ≤ 1000) : AFn Tryz.prog 92 [.agg [.int .i64 m, .sl false 27 (rowsF t)], .sl false 29 (serL L)] (.int .i64 (ftC m t L)) := by
  refine AFn.of' ttOk (by decide) Tryz.func92 Tryz.ntmps92 (by rw [Tryz.results92]) (by rfl) (by rfl) (by simp) (by decide) (by simp only [go_sem, Nat.reduceAdd, ↓reduceIte]; rfl) mixed (fun C hP hM hC => ?_)
  have ht := hsh.1
  have hP1 := c_spec_l03Is m t hsh.sm
  cases g1 : isPl m t with
  | false =>
    rw [g1] at hP1
    (repeat (first | ((with_reducible refine rgn_cons rfl (fun K hK => ?_)); simp only [go_sem, seval, ↓reduceIte, decide_true, decide_false]; (first | refine hK _ _ _ (by simp only [go_sem, Nat.reduceEqDiff, ↓reduceIte]; rfl) ?_ | refine ⟨_, hP1, hK _ _ _ (by simp only [go_sem, Nat.reduceEqDiff, ↓reduceIte]; rfl) ?_⟩); clear hK; clear K) | (with_reducible first | refine rgn_nil (by first | trivial | kernel_rfl) ?_ | refine AWP.seq ?_ | refine tX hC hP (by kernel_rfl) ?_ | refine aX hC hM hP (by kernel_rfl) ?_ | refine AWP.skip ?_ | refine AWP.label ?_ | refine AWP.exit ?_ | refine AWP.block ?_ | refine cTa ?_ | refine cFa ?_) | simp only [qS, Nat.reduceEqDiff, ↓reduceIte]))
    (refine AWP.ret ?_; refine retOk1 (by simp only [go_sem, seval, ↓reduceIte, decide_true, decide_false]; rfl) ?_)
    rw [ftC, if_neg (by rw [g1]; exact fun h => by cases h.1)]
  | true =>
    rw [g1] at hP1
    (repeat (first | ((with_reducible refine rgn_cons rfl (fun K hK => ?_)); simp only [go_sem, seval, ↓reduceIte, decide_true, decide_false, serL_pure, serL_noOwn, serL_refFree]; (first | refine hK _ _ _ (by simp only [go_sem, Nat.reduceEqDiff, ↓reduceIte]; rfl) ?_ | refine ⟨_, hP1, hK _ _ _ (by simp only [go_sem, Nat.reduceEqDiff, ↓reduceIte]; rfl) ?_⟩); clear hK; clear K) | (with_reducible first | refine rgn_nil (by first | trivial | kernel_rfl) ?_ | refine AWP.seq ?_ | refine tX hC hP (by kernel_rfl) ?_ | refine aX hC hM hP (by kernel_rfl) ?_ | refine AWP.skip ?_ | refine AWP.label ?_ | refine AWP.exit ?_ | refine AWP.block ?_ | refine cTa ?_ | refine cFa ?_) | simp only [qS, Nat.reduceEqDiff, ↓reduceIte]))
    refine AWP.loop (fun i : Nat => [(5, ⟨0, .val (.int .i64 i)⟩), (1, ⟨0, .val (.sl false 29 (serL L))⟩), (2, ⟨1, .own (.box 26 (.agg [.int .i64 m, .sl false 27 (rowsF t)]))⟩), (4, ⟨0, .val (.int .i64 0)⟩)]) (fun i => i ≤ L.length ∧ ∀ j, j < i → isSer (L.getD j (0, [])).1 (L.getD j (0, [])).2 = true) (fun i => L.length - i) 0 ⟨Nat.zero_le _, fun j hj => absurd hj (Nat.not_lt_zero _)⟩ (fun i => rfl) ?_ (fun i hi => ?_)
    · simp [Sub, lk]
    · by_cases hlt : i < L.length
      · have hA := c_spec_l02Is (L.getD i (0, [])).1 (L.getD i (0, [])).2 (by have := hLL i hlt; omega)
        cases g2 : isSer (L.getD i (0, [])).1 (L.getD i (0, [])).2 with
        | false =>
          rw [g2] at hA
          (repeat (first | ((with_reducible refine rgn_cons rfl (fun K hK => ?_)); simp only [go_sem, seval, ↓reduceIte, decide_true, decide_false, serL_length, show (i : Int) < (L.length : Int) by omega, decide_true, Int.natCast_nonneg, Int.toNat_natCast, serL_getD L i hlt]; (first | refine hK _ _ _ (by simp only [go_sem, Nat.reduceEqDiff, ↓reduceIte]; rfl) ?_ | refine ⟨_, hA, hK _ _ _ (by simp only [go_sem, Nat.reduceEqDiff, ↓reduceIte]; rfl) ?_⟩); clear hK; clear K) | (with_reducible first | refine rgn_nil (by first | trivial | kernel_rfl) ?_ | refine AWP.seq ?_ | refine tX hC hP (by kernel_rfl) ?_ | refine aX hC hM hP (by kernel_rfl) ?_ | refine AWP.skip ?_ | refine AWP.label ?_ | refine AWP.exit ?_ | refine AWP.block ?_ | refine cTa ?_ | refine cFa ?_) | simp only [qS, Nat.reduceEqDiff, ↓reduceIte]))
          (refine AWP.ret ?_; refine retOk1 (by simp only [go_sem, seval, ↓reduceIte, decide_true, decide_false]; rfl) ?_)
          rw [ftC, if_neg (fun h => by have := h.2 i hlt; rw [g2] at this; cases this)]
        | true =>
          rw [g2] at hA
          (repeat (first | ((with_reducible refine rgn_cons rfl (fun K hK => ?_)); simp only [go_sem, seval, ↓reduceIte, decide_true, decide_false, serL_length, show (i : Int) < (L.length : Int) by omega, decide_true, Int.natCast_nonneg, Int.toNat_natCast, serL_getD L i hlt, wid ((i : Int) + 1) (by omega) (by omega)]; (first | refine hK _ _ _ (by simp only [go_sem, Nat.reduceEqDiff, ↓reduceIte]; rfl) ?_ | refine ⟨_, hA, hK _ _ _ (by simp only [go_sem, Nat.reduceEqDiff, ↓reduceIte]; rfl) ?_⟩); clear hK; clear K) | (with_reducible first | refine rgn_nil (by first | trivial | kernel_rfl) ?_ | refine AWP.seq ?_ | refine tX hC hP (by kernel_rfl) ?_ | refine aX hC hM hP (by kernel_rfl) ?_ | refine AWP.skip ?_ | refine AWP.label ?_ | refine AWP.exit ?_ | refine AWP.block ?_ | refine cTa ?_ | refine cFa ?_) | simp only [qS, Nat.reduceEqDiff, ↓reduceIte]))
          refine ⟨i + 1, ⟨hlt, fun j hj => ?_⟩, by omega, by simp [Sub, lk]⟩
          by_cases e : j = i
          · rw [e]; exact g2
          · exact hi.2 j (by omega)
      · have hall : ∀ j, j < L.length → isSer (L.getD j (0, [])).1 (L.getD j (0, [])).2 = true := fun j hj => hi.2 j (by omega)
        (repeat (first | ((with_reducible refine rgn_cons rfl (fun K hK => ?_)); simp only [go_sem, seval, ↓reduceIte, decide_true, decide_false, serL_length, show ¬ (i : Int) < (L.length : Int) by omega, decide_false]; (refine hK _ _ _ (by simp only [go_sem, Nat.reduceEqDiff, ↓reduceIte]; rfl) ?_); clear hK; clear K) | (with_reducible first | refine rgn_nil (by first | trivial | kernel_rfl) ?_ | refine AWP.seq ?_ | refine tX hC hP (by kernel_rfl) ?_ | refine aX hC hM hP (by kernel_rfl) ?_ | refine AWP.skip ?_ | refine AWP.label ?_ | refine AWP.exit ?_ | refine AWP.block ?_ | refine cTa ?_ | refine cFa ?_) | simp only [qS, Nat.reduceEqDiff, ↓reduceIte]))
        refine AWP.loop (fun i : Nat => [(6, ⟨0, .val (.int .i64 i)⟩), (1, ⟨0, .val (.sl false 29 (serL L))⟩), (2, ⟨1, .own (.box 26 (.agg [.int .i64 m, .sl false 27 (rowsF t)]))⟩), (4, ⟨0, .val (.int .i64 0)⟩)]) (fun i => i ≤ L.length ∧ ∀ j, j < i → (L.getD j (0, [])).1 = m ∧ (L.getD j (0, [])).2.length = t.length) (fun i => L.length - i) 0 ⟨Nat.zero_le _, fun j hj => absurd hj (Nat.not_lt_zero _)⟩ (fun i => rfl) ?_ (fun i hi => ?_)
        · simp [Sub, lk]
        · by_cases hlt : i < L.length
          · by_cases g3 : (L.getD i (0, [])).1 = m
            · by_cases g4 : (L.getD i (0, [])).2.length = t.length
              · (repeat (first | ((with_reducible refine rgn_cons rfl (fun K hK => ?_)); simp only [go_sem, seval, ↓reduceIte, decide_true, decide_false, serL_length, show (i : Int) < (L.length : Int) by omega, decide_true, Int.natCast_nonneg, Int.toNat_natCast, serL_getD L i hlt, show ((L.getD i (0, [])).1 != m) = false by rw [g3]; exact bne_self_eq_false m, rowsF_length, show (((L.getD i (0, [])).2.length : Int) != (t.length : Int)) = false by rw [g4]; exact bne_self_eq_false _, wid ((i : Int) + 1) (by omega) (by omega)]; (refine hK _ _ _ (by simp only [go_sem, Nat.reduceEqDiff, ↓reduceIte]; rfl) ?_); clear hK; clear K) | (with_reducible first | refine rgn_nil (by first | trivial | kernel_rfl) ?_ | refine AWP.seq ?_ | refine tX hC hP (by kernel_rfl) ?_ | refine aX hC hM hP (by kernel_rfl) ?_ | refine AWP.skip ?_ | refine AWP.label ?_ | refine AWP.exit ?_ | refine AWP.block ?_ | refine cTa ?_ | refine cFa ?_) | simp only [qS, Nat.reduceEqDiff, ↓reduceIte]))
                refine ⟨i + 1, ⟨hlt, fun j hj => ?_⟩, by omega, by simp [Sub, lk]⟩
                by_cases e : j = i
                · rw [e]; exact ⟨g3, g4⟩
                · exact hi.2 j (by omega)
              · (repeat (first | ((with_reducible refine rgn_cons rfl (fun K hK => ?_)); simp only [go_sem, seval, ↓reduceIte, decide_true, decide_false, serL_length, show (i : Int) < (L.length : Int) by omega, decide_true, Int.natCast_nonneg, Int.toNat_natCast, serL_getD L i hlt, show ((L.getD i (0, [])).1 != m) = false by rw [g3]; exact bne_self_eq_false m, rowsF_length, show (((L.getD i (0, [])).2.length : Int) != (t.length : Int)) = true by rw [bne_iff_ne]; omega]; (refine hK _ _ _ (by simp only [go_sem, Nat.reduceEqDiff, ↓reduceIte]; rfl) ?_); clear hK; clear K) | (with_reducible first | refine rgn_nil (by first | trivial | kernel_rfl) ?_ | refine AWP.seq ?_ | refine tX hC hP (by kernel_rfl) ?_ | refine aX hC hM hP (by kernel_rfl) ?_ | refine AWP.skip ?_ | refine AWP.label ?_ | refine AWP.exit ?_ | refine AWP.block ?_ | refine cTa ?_ | refine cFa ?_) | simp only [qS, Nat.reduceEqDiff, ↓reduceIte]))
                (refine AWP.ret ?_; refine retOk1 (by simp only [go_sem, seval, ↓reduceIte, decide_true, decide_false]; rfl) ?_)
                rw [ftC, if_pos ⟨g1, hall⟩, if_neg (fun h => g4 (h i hlt).2)]
            · (repeat (first | ((with_reducible refine rgn_cons rfl (fun K hK => ?_)); simp only [go_sem, seval, ↓reduceIte, decide_true, decide_false, serL_length, show (i : Int) < (L.length : Int) by omega, decide_true, Int.natCast_nonneg, Int.toNat_natCast, serL_getD L i hlt, show ((L.getD i (0, [])).1 != m) = true by rw [bne_iff_ne]; exact g3]; (refine hK _ _ _ (by simp only [go_sem, Nat.reduceEqDiff, ↓reduceIte]; rfl) ?_); clear hK; clear K) | (with_reducible first | refine rgn_nil (by first | trivial | kernel_rfl) ?_ | refine AWP.seq ?_ | refine tX hC hP (by kernel_rfl) ?_ | refine aX hC hM hP (by kernel_rfl) ?_ | refine AWP.skip ?_ | refine AWP.label ?_ | refine AWP.exit ?_ | refine AWP.block ?_ | refine cTa ?_ | refine cFa ?_) | simp only [qS, Nat.reduceEqDiff, ↓reduceIte]))
              (refine AWP.ret ?_; refine retOk1 (by simp only [go_sem, seval, ↓reduceIte, decide_true, decide_false]; rfl) ?_)
              rw [ftC, if_pos ⟨g1, hall⟩, if_neg (fun h => g3 (h i hlt).1)]
          · (repeat (first | ((with_reducible refine rgn_cons rfl (fun K hK => ?_)); simp only [go_sem, seval, ↓reduceIte, decide_true, decide_false, serL_length, show ¬ (i : Int) < (L.length : Int) by omega, decide_false]; (refine hK _ _ _ (by simp only [go_sem, Nat.reduceEqDiff, ↓reduceIte]; rfl) ?_); clear hK; clear K) | (with_reducible first | refine rgn_nil (by first | trivial | kernel_rfl) ?_ | refine AWP.seq ?_ | refine tX hC hP (by kernel_rfl) ?_ | refine aX hC hM hP (by kernel_rfl) ?_ | refine AWP.skip ?_ | refine AWP.label ?_ | refine AWP.exit ?_ | refine AWP.block ?_ | refine cTa ?_ | refine cFa ?_) | simp only [qS, Nat.reduceEqDiff, ↓reduceIte]))
            (refine AWP.ret ?_; refine retOk1 (by simp only [go_sem, seval, ↓reduceIte, decide_true, decide_false]; rfl) ?_)
            rw [ftC, if_pos ⟨g1, hall⟩, if_pos (fun j hj => hi.2 j (by omega))]
end Go.Proofs.YtapdekacpecgiaaGreat
