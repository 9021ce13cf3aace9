/-
  A series and a plane.
-/
import Derived.Test.YtapdekacpecgiaaGreatSw
namespace Go.Proofs.YtapdekacpecgiaaGreat
open Go.RowKit
set_option linter.unusedSimpArgs false
set_option linter.unusedVariables false
set_option linter.unusedSectionVars false
set_option maxRecDepth 20000
-- A series and a plane.
def apN (l : List Int) (m : Int) (t : List (List Int)) (s : Int × Int) : Int × Int := if isPl m t = true then nextS l s 8 else s
def apZ (l : List Int) (m : Int) (t : List (List Int)) (s : Int × Int) : Bool := isPl m t && decide (0 < nextX l s 8)
def apM (l : List Int) (m : Int) (t : List (List Int)) (s : Int × Int) : Int := if nextX l (apN l m t s) 16 = 0 then drawM l (nextS l (apN l m t s) 16) else m
def apL (l : List Int) (m : Int) (t : List (List Int)) (s : Int × Int) : List Int := if nextX l (apN l m t s) 16 = 0 then d2L l (nextS l (apN l m t s) 16) else lsL l m (nextS l (apN l m t s) 16) t.length
theorem winz {k h : Nat} {L : List (List Int)} (h1 : k < h) (h2 : h ≤ L.length) : ((L.set k ((L.getD k []).set 0 0)).take h).drop k = z00 ((L.take h).drop k) := by
  have e : ((L.take h).drop k).getD 0 [] = L.getD k [] := by
    rw [List.getD_eq_getElem?_getD, List.getD_eq_getElem?_getD, List.getElem?_drop, Nat.add_zero, List.getElem?_take_of_lt h1]
  rw [z00, e]
  apply List.ext_getElem?
  intro i
  rw [List.getElem?_drop, List.getElem?_set, List.getElem?_drop, win_length (by omega) h2]
  by_cases g : k + i < h
  · rw [List.getElem?_take_of_lt g, List.getElem?_take_of_lt g, List.getElem?_set]
    by_cases e2 : i = 0
    · subst e2; simp [show k < L.length by omega, show 0 < h - k by omega]
    · rw [if_neg (by omega), if_neg (by omega)]
  · rw [List.getElem?_eq_none (by rw [List.length_take]; omega), if_neg (by omega), List.getElem?_eq_none (by rw [List.length_take]; omega)]
set_option maxHeartbeats 4000000 in
theorem c_spec_DrawApplySeries_pz (a : Option Addr) (c : Nat) (l : List Int) (hB : Byt l) (m : Int) (t : List (List Int)) (s1 : Int × Int) (q1 : Sok l s1) (hsh : Shp t) (h1t : 1 ≤ t.length) (hC0 : AFn Tryz.prog (5000000 + 84) [.str (.src a c l), SRC a c l (from0 l)] (.tup [.agg [.int .i64 m, .sl true 27 (rowsO t)], SRC a c l s1])) (hz : apZ l m t s1 = true) : AFn Tryz.prog 16 [.str (.src a c l)] (.tup [.agg [.int .i64 (apM l m t s1), .sl true 2 (intL (apL l m t s1))], .agg [.int .i64 m, .sl true 27 (rowsO (z00 t))]]) := by
  refine AFn.of' ttOk (by decide) Tryz.func16 Tryz.ntmps16 (by rw [Tryz.results16]) (by rfl) (by rfl) (by simp) (by decide) (by simp only [go_sem, Nat.reduceAdd, ↓reduceIte]; rfl) mixed (fun C hP hM hC => ?_)
  have ht := hsh.1
  have hI := c_spec_l03Is m t hsh.sm
  have hF := c_spec_l01From a c l hB
  have hN8 := c_spec_l01Next a c l hB s1 q1 8
  have hr := (hsh.row (i := 0) (by omega)).2
  have hz2 : isPl m t = true ∧ 0 < nextX l s1 8 := by simpa [apZ] using hz
  obtain ⟨g1, g2⟩ := hz2
  rw [g1] at hI
  have hN : apN l m t s1 = nextS l s1 8 := if_pos g1
  have hN16 := c_spec_l01Next a c l hB _ (nextS_ok q1 8) 16
  have hL := c_spec_l01List a c l hB _ (nextS_ok (nextS_ok q1 8) 16) m (t.length : Int) (by omega)
  rw [Int.toNat_natCast] at hL
  have hD := c_spec_l02Draw a c l hB _ (nextS_ok (nextS_ok q1 8) 16)
  refine AWP.ghost (t := 0) rfl rfl ?_
  by_cases g3 : nextX l (apN l m t s1) 16 = 0
  · rw [show apM l m t s1 = drawM l (nextS l (apN l m t s1) 16) from if_pos g3, show apL l m t s1 = d2L l (nextS l (apN l m t s1) 16) from if_pos g3]
    rw [hN] at g3
    rw [hN]
    (repeat (first | ((with_reducible refine rgn_cons rfl (fun K hK => ?_)); simp only [go_sem, seval, ↓reduceIte, decide_true, decide_false, rowsO_length, List.length_set, g2, decide_true, rowsO_at t 0 (by omega), show (0 : Int) < (t.length : Int) by omega, Int.le_refl, Int.toNat_zero, List.take_zero, Nat.zero_mul, show (0 : Int) < ((t.getD 0 []).length : Int) by omega, intL_get _ 0 (show 0 < (t.getD 0 []).length by omega), rowsO_modify t 0 0 0 (by omega), g3]; (first | refine hK _ _ _ (by simp only [go_sem, Nat.reduceEqDiff, ↓reduceIte]; rfl) ?_ | refine ⟨_, hF, hK _ _ _ (by simp only [go_sem, Nat.reduceEqDiff, ↓reduceIte]; rfl) ?_⟩ | refine ⟨_, hC0, hK _ _ _ (by simp only [go_sem, Nat.reduceEqDiff, ↓reduceIte]; rfl) ?_⟩ | refine ⟨_, hI, hK _ _ _ (by simp only [go_sem, Nat.reduceEqDiff, ↓reduceIte]; rfl) ?_⟩ | refine ⟨_, hN8, hK _ _ _ (by simp only [go_sem, Nat.reduceEqDiff, ↓reduceIte]; rfl) ?_⟩ | refine ⟨_, hN16, hK _ _ _ (by simp only [go_sem, Nat.reduceEqDiff, ↓reduceIte]; rfl) ?_⟩ | refine ⟨_, hL, hK _ _ _ (by simp only [go_sem, Nat.reduceEqDiff, ↓reduceIte]; rfl) ?_⟩ | refine ⟨_, hD, hK _ _ _ (by simp only [go_sem, Nat.reduceEqDiff, ↓reduceIte]; rfl) ?_⟩ | refine ⟨_, c_spec_l02Make _ _, hK _ _ _ (by simp only [go_sem, Nat.reduceEqDiff, ↓reduceIte]; rfl) ?_⟩); clear hK; clear K) | (with_reducible first | refine rgn_nil (by first | trivial | kernel_rfl) ?_ | refine AWP.seq ?_ | refine tX hC hP (by kernel_rfl) ?_ | refine aX hC hM hP (by kernel_rfl) ?_ | refine AWP.skip ?_ | refine AWP.label ?_ | refine AWP.exit ?_ | refine AWP.block ?_ | refine cTa ?_ | refine cFa ?_) | simp only [qS, Nat.reduceEqDiff, ↓reduceIte]))
    (refine AWP.ret ?_; refine retOk2 (by simp only [go_sem, seval, ↓reduceIte, decide_true, decide_false]; rfl) (by simp only [go_sem, seval, ↓reduceIte, decide_true, decide_false]; rfl) (by simp) ?_)
    rfl
  · rw [show apM l m t s1 = m from if_neg g3, show apL l m t s1 = lsL l m (nextS l (apN l m t s1) 16) t.length from if_neg g3]
    rw [hN] at g3
    rw [hN]
    (repeat (first | ((with_reducible refine rgn_cons rfl (fun K hK => ?_)); simp only [go_sem, seval, ↓reduceIte, decide_true, decide_false, rowsO_length, List.length_set, g2, decide_true, rowsO_at t 0 (by omega), show (0 : Int) < (t.length : Int) by omega, Int.le_refl, Int.toNat_zero, List.take_zero, Nat.zero_mul, show (0 : Int) < ((t.getD 0 []).length : Int) by omega, intL_get _ 0 (show 0 < (t.getD 0 []).length by omega), rowsO_modify t 0 0 0 (by omega), beqF g3]; (first | refine hK _ _ _ (by simp only [go_sem, Nat.reduceEqDiff, ↓reduceIte]; rfl) ?_ | refine ⟨_, hF, hK _ _ _ (by simp only [go_sem, Nat.reduceEqDiff, ↓reduceIte]; rfl) ?_⟩ | refine ⟨_, hC0, hK _ _ _ (by simp only [go_sem, Nat.reduceEqDiff, ↓reduceIte]; rfl) ?_⟩ | refine ⟨_, hI, hK _ _ _ (by simp only [go_sem, Nat.reduceEqDiff, ↓reduceIte]; rfl) ?_⟩ | refine ⟨_, hN8, hK _ _ _ (by simp only [go_sem, Nat.reduceEqDiff, ↓reduceIte]; rfl) ?_⟩ | refine ⟨_, hN16, hK _ _ _ (by simp only [go_sem, Nat.reduceEqDiff, ↓reduceIte]; rfl) ?_⟩ | refine ⟨_, hL, hK _ _ _ (by simp only [go_sem, Nat.reduceEqDiff, ↓reduceIte]; rfl) ?_⟩ | refine ⟨_, hD, hK _ _ _ (by simp only [go_sem, Nat.reduceEqDiff, ↓reduceIte]; rfl) ?_⟩ | refine ⟨_, c_spec_l02Make _ _, hK _ _ _ (by simp only [go_sem, Nat.reduceEqDiff, ↓reduceIte]; rfl) ?_⟩); clear hK; clear K) | (with_reducible first | refine rgn_nil (by first | trivial | kernel_rfl) ?_ | refine AWP.seq ?_ | refine tX hC hP (by kernel_rfl) ?_ | refine aX hC hM hP (by kernel_rfl) ?_ | refine AWP.skip ?_ | refine AWP.label ?_ | refine AWP.exit ?_ | refine AWP.block ?_ | refine cTa ?_ | refine cFa ?_) | simp only [qS, Nat.reduceEqDiff, ↓reduceIte]))
    (refine AWP.ret ?_; refine retOk2 (by simp only [go_sem, seval, ↓reduceIte, decide_true, decide_false]; rfl) (by simp only [go_sem, seval, ↓reduceIte, decide_true, decide_false]; rfl) (by simp) ?_)
    rfl
set_option maxHeartbeats 4000000 in
theorem c_spec_DrawApplySeries_pn (a : Option Addr) (c : Nat) (l : List Int) (hB : Byt l) (m : Int) (t : List (List Int)) (s1 : Int × Int) (q1 : Sok l s1) (hsh : Shp t) (h1t : 1 ≤ t.length) (hC0 : AFn Tryz.prog (5000000 + 84) [.str (.src a c l), SRC a c l (from0 l)] (.tup [.agg [.int .i64 m, .sl true 27 (rowsO t)], SRC a c l s1])) (hz : apZ l m t s1 = false) : AFn Tryz.prog 16 [.str (.src a c l)] (.tup [.agg [.int .i64 (apM l m t s1), .sl true 2 (intL (apL l m t s1))], .agg [.int .i64 m, .sl true 27 (rowsO t)]]) := by
  refine AFn.of' ttOk (by decide) Tryz.func16 Tryz.ntmps16 (by rw [Tryz.results16]) (by rfl) (by rfl) (by simp) (by decide) (by simp only [go_sem, Nat.reduceAdd, ↓reduceIte]; rfl) mixed (fun C hP hM hC => ?_)
  have ht := hsh.1
  have hI := c_spec_l03Is m t hsh.sm
  have hF := c_spec_l01From a c l hB
  have hN8 := c_spec_l01Next a c l hB s1 q1 8
  cases g1 : isPl m t with
  | true =>
    have g2 : ¬ 0 < nextX l s1 8 := by
      have : decide (0 < nextX l s1 8) = false := by simpa [apZ, g1] using hz
      simpa using this
    rw [g1] at hI
    have hN : apN l m t s1 = nextS l s1 8 := if_pos g1
    have hN16 := c_spec_l01Next a c l hB _ (nextS_ok q1 8) 16
    have hL := c_spec_l01List a c l hB _ (nextS_ok (nextS_ok q1 8) 16) m (t.length : Int) (by omega)
    rw [Int.toNat_natCast] at hL
    have hD := c_spec_l02Draw a c l hB _ (nextS_ok (nextS_ok q1 8) 16)
    refine AWP.ghost (t := 0) rfl rfl ?_
    by_cases g3 : nextX l (apN l m t s1) 16 = 0
    · rw [show apM l m t s1 = drawM l (nextS l (apN l m t s1) 16) from if_pos g3, show apL l m t s1 = d2L l (nextS l (apN l m t s1) 16) from if_pos g3]
      rw [hN] at g3
      rw [hN]
      (repeat (first | ((with_reducible refine rgn_cons rfl (fun K hK => ?_)); simp only [go_sem, seval, ↓reduceIte, decide_true, decide_false, rowsO_length, List.length_set, g2, decide_false, g3]; (first | refine hK _ _ _ (by simp only [go_sem, Nat.reduceEqDiff, ↓reduceIte]; rfl) ?_ | refine ⟨_, hF, hK _ _ _ (by simp only [go_sem, Nat.reduceEqDiff, ↓reduceIte]; rfl) ?_⟩ | refine ⟨_, hC0, hK _ _ _ (by simp only [go_sem, Nat.reduceEqDiff, ↓reduceIte]; rfl) ?_⟩ | refine ⟨_, hI, hK _ _ _ (by simp only [go_sem, Nat.reduceEqDiff, ↓reduceIte]; rfl) ?_⟩ | refine ⟨_, hN8, hK _ _ _ (by simp only [go_sem, Nat.reduceEqDiff, ↓reduceIte]; rfl) ?_⟩ | refine ⟨_, hN16, hK _ _ _ (by simp only [go_sem, Nat.reduceEqDiff, ↓reduceIte]; rfl) ?_⟩ | refine ⟨_, hL, hK _ _ _ (by simp only [go_sem, Nat.reduceEqDiff, ↓reduceIte]; rfl) ?_⟩ | refine ⟨_, hD, hK _ _ _ (by simp only [go_sem, Nat.reduceEqDiff, ↓reduceIte]; rfl) ?_⟩ | refine ⟨_, c_spec_l02Make _ _, hK _ _ _ (by simp only [go_sem, Nat.reduceEqDiff, ↓reduceIte]; rfl) ?_⟩); clear hK; clear K) | (with_reducible first | refine rgn_nil (by first | trivial | kernel_rfl) ?_ | refine AWP.seq ?_ | refine tX hC hP (by kernel_rfl) ?_ | refine aX hC hM hP (by kernel_rfl) ?_ | refine AWP.skip ?_ | refine AWP.label ?_ | refine AWP.exit ?_ | refine AWP.block ?_ | refine cTa ?_ | refine cFa ?_) | simp only [qS, Nat.reduceEqDiff, ↓reduceIte]))
      (refine AWP.ret ?_; refine retOk2 (by simp only [go_sem, seval, ↓reduceIte, decide_true, decide_false]; rfl) (by simp only [go_sem, seval, ↓reduceIte, decide_true, decide_false]; rfl) (by simp) ?_)
      rfl
    · rw [show apM l m t s1 = m from if_neg g3, show apL l m t s1 = lsL l m (nextS l (apN l m t s1) 16) t.length from if_neg g3]
      rw [hN] at g3
      rw [hN]
      (repeat (first | ((with_reducible refine rgn_cons rfl (fun K hK => ?_)); simp only [go_sem, seval, ↓reduceIte, decide_true, decide_false, rowsO_length, List.length_set, g2, decide_false, beqF g3]; (first | refine hK _ _ _ (by simp only [go_sem, Nat.reduceEqDiff, ↓reduceIte]; rfl) ?_ | refine ⟨_, hF, hK _ _ _ (by simp only [go_sem, Nat.reduceEqDiff, ↓reduceIte]; rfl) ?_⟩ | refine ⟨_, hC0, hK _ _ _ (by simp only [go_sem, Nat.reduceEqDiff, ↓reduceIte]; rfl) ?_⟩ | refine ⟨_, hI, hK _ _ _ (by simp only [go_sem, Nat.reduceEqDiff, ↓reduceIte]; rfl) ?_⟩ | refine ⟨_, hN8, hK _ _ _ (by simp only [go_sem, Nat.reduceEqDiff, ↓reduceIte]; rfl) ?_⟩ | refine ⟨_, hN16, hK _ _ _ (by simp only [go_sem, Nat.reduceEqDiff, ↓reduceIte]; rfl) ?_⟩ | refine ⟨_, hL, hK _ _ _ (by simp only [go_sem, Nat.reduceEqDiff, ↓reduceIte]; rfl) ?_⟩ | refine ⟨_, hD, hK _ _ _ (by simp only [go_sem, Nat.reduceEqDiff, ↓reduceIte]; rfl) ?_⟩ | refine ⟨_, c_spec_l02Make _ _, hK _ _ _ (by simp only [go_sem, Nat.reduceEqDiff, ↓reduceIte]; rfl) ?_⟩); clear hK; clear K) | (with_reducible first | refine rgn_nil (by first | trivial | kernel_rfl) ?_ | refine AWP.seq ?_ | refine tX hC hP (by kernel_rfl) ?_ | refine aX hC hM hP (by kernel_rfl) ?_ | refine AWP.skip ?_ | refine AWP.label ?_ | refine AWP.exit ?_ | refine AWP.block ?_ | refine cTa ?_ | refine cFa ?_) | simp only [qS, Nat.reduceEqDiff, ↓reduceIte]))
      (refine AWP.ret ?_; refine retOk2 (by simp only [go_sem, seval, ↓reduceIte, decide_true, decide_false]; rfl) (by simp only [go_sem, seval, ↓reduceIte, decide_true, decide_false]; rfl) (by simp) ?_)
      rfl
  | false =>
    rw [g1] at hI
    have hN : apN l m t s1 = s1 := if_neg (by rw [g1]; exact fun h => by cases h)
    have hN16 := c_spec_l01Next a c l hB _ q1 16
    have hL := c_spec_l01List a c l hB _ (nextS_ok q1 16) m (t.length : Int) (by omega)
    rw [Int.toNat_natCast] at hL
    have hD := c_spec_l02Draw a c l hB _ (nextS_ok q1 16)
    refine AWP.ghost (t := 0) rfl rfl ?_
    by_cases g3 : nextX l (apN l m t s1) 16 = 0
    · rw [show apM l m t s1 = drawM l (nextS l (apN l m t s1) 16) from if_pos g3, show apL l m t s1 = d2L l (nextS l (apN l m t s1) 16) from if_pos g3]
      rw [hN] at g3
      rw [hN]
      (repeat (first | ((with_reducible refine rgn_cons rfl (fun K hK => ?_)); simp only [go_sem, seval, ↓reduceIte, decide_true, decide_false, rowsO_length, List.length_set, g3]; (first | refine hK _ _ _ (by simp only [go_sem, Nat.reduceEqDiff, ↓reduceIte]; rfl) ?_ | refine ⟨_, hF, hK _ _ _ (by simp only [go_sem, Nat.reduceEqDiff, ↓reduceIte]; rfl) ?_⟩ | refine ⟨_, hC0, hK _ _ _ (by simp only [go_sem, Nat.reduceEqDiff, ↓reduceIte]; rfl) ?_⟩ | refine ⟨_, hI, hK _ _ _ (by simp only [go_sem, Nat.reduceEqDiff, ↓reduceIte]; rfl) ?_⟩ | refine ⟨_, hN8, hK _ _ _ (by simp only [go_sem, Nat.reduceEqDiff, ↓reduceIte]; rfl) ?_⟩ | refine ⟨_, hN16, hK _ _ _ (by simp only [go_sem, Nat.reduceEqDiff, ↓reduceIte]; rfl) ?_⟩ | refine ⟨_, hL, hK _ _ _ (by simp only [go_sem, Nat.reduceEqDiff, ↓reduceIte]; rfl) ?_⟩ | refine ⟨_, hD, hK _ _ _ (by simp only [go_sem, Nat.reduceEqDiff, ↓reduceIte]; rfl) ?_⟩ | refine ⟨_, c_spec_l02Make _ _, hK _ _ _ (by simp only [go_sem, Nat.reduceEqDiff, ↓reduceIte]; rfl) ?_⟩); clear hK; clear K) | (with_reducible first | refine rgn_nil (by first | trivial | kernel_rfl) ?_ | refine AWP.seq ?_ | refine tX hC hP (by kernel_rfl) ?_ | refine aX hC hM hP (by kernel_rfl) ?_ | refine AWP.skip ?_ | refine AWP.label ?_ | refine AWP.exit ?_ | refine AWP.block ?_ | refine cTa ?_ | refine cFa ?_) | simp only [qS, Nat.reduceEqDiff, ↓reduceIte]))
      (refine AWP.ret ?_; refine retOk2 (by simp only [go_sem, seval, ↓reduceIte, decide_true, decide_false]; rfl) (by simp only [go_sem, seval, ↓reduceIte, decide_true, decide_false]; rfl) (by simp) ?_)
      rfl
    · rw [show apM l m t s1 = m from if_neg g3, show apL l m t s1 = lsL l m (nextS l (apN l m t s1) 16) t.length from if_neg g3]
      rw [hN] at g3
      rw [hN]
      (repeat (first | ((with_reducible refine rgn_cons rfl (fun K hK => ?_)); simp only [go_sem, seval, ↓reduceIte, decide_true, decide_false, rowsO_length, List.length_set, beqF g3]; (first | refine hK _ _ _ (by simp only [go_sem, Nat.reduceEqDiff, ↓reduceIte]; rfl) ?_ | refine ⟨_, hF, hK _ _ _ (by simp only [go_sem, Nat.reduceEqDiff, ↓reduceIte]; rfl) ?_⟩ | refine ⟨_, hC0, hK _ _ _ (by simp only [go_sem, Nat.reduceEqDiff, ↓reduceIte]; rfl) ?_⟩ | refine ⟨_, hI, hK _ _ _ (by simp only [go_sem, Nat.reduceEqDiff, ↓reduceIte]; rfl) ?_⟩ | refine ⟨_, hN8, hK _ _ _ (by simp only [go_sem, Nat.reduceEqDiff, ↓reduceIte]; rfl) ?_⟩ | refine ⟨_, hN16, hK _ _ _ (by simp only [go_sem, Nat.reduceEqDiff, ↓reduceIte]; rfl) ?_⟩ | refine ⟨_, hL, hK _ _ _ (by simp only [go_sem, Nat.reduceEqDiff, ↓reduceIte]; rfl) ?_⟩ | refine ⟨_, hD, hK _ _ _ (by simp only [go_sem, Nat.reduceEqDiff, ↓reduceIte]; rfl) ?_⟩ | refine ⟨_, c_spec_l02Make _ _, hK _ _ _ (by simp only [go_sem, Nat.reduceEqDiff, ↓reduceIte]; rfl) ?_⟩); clear hK; clear K) | (with_reducible first | refine rgn_nil (by first | trivial | kernel_rfl) ?_ | refine AWP.seq ?_ | refine tX hC hP (by kernel_rfl) ?_ | refine aX hC hM hP (by kernel_rfl) ?_ | refine AWP.skip ?_ | refine AWP.label ?_ | refine AWP.exit ?_ | refine AWP.block ?_ | refine cTa ?_ | refine cFa ?_) | simp only [qS, Nat.reduceEqDiff, ↓reduceIte]))
      (refine AWP.ret ?_; refine retOk2 (by simp only [go_sem, seval, ↓reduceIte, decide_true, decide_false]; rfl) (by simp only [go_sem, seval, ↓reduceIte, decide_true, decide_false]; rfl) (by simp) ?_)
      rfl
set_option maxHeartbeats 4000000 in
theorem c_spec_DrawApplySeries_wz (a : Option Addr) (c : Nat) (l : List Int) (hB : Byt l) (m : Int) (t : List (List Int)) (s1 : Int × Int) (q1 : Sok l s1) (hsh : Shp t) (h1t : 1 ≤ t.length) (k h : Nat) (L : List (List Int)) (k1 : k < h) (k2 : h ≤ L.length) (k4 : t = (L.take h).drop k) (hC0 : AFn Tryz.prog (5000000 + 84) [.str (.src a c l), SRC a c l (from0 l)] (.tup [.agg [.int .i64 m, .win 27 k h (rowsO L)], SRC a c l s1])) (hz : apZ l m t s1 = true) : AFn Tryz.prog 16 [.str (.src a c l)] (.tup [.agg [.int .i64 (apM l m t s1), .sl true 2 (intL (apL l m t s1))], .agg [.int .i64 m, .win 27 k h (rowsO (L.set k ((L.getD k []).set 0 0)))]]) := by
  refine AFn.of' ttOk (by decide) Tryz.func16 Tryz.ntmps16 (by rw [Tryz.results16]) (by rfl) (by rfl) (by simp) (by decide) (by simp only [go_sem, Nat.reduceAdd, ↓reduceIte]; rfl) mixed (fun C hP hM hC => ?_)
  have ht := hsh.1
  have hI := c_spec_l03Is m t hsh.sm
  have hF := c_spec_l01From a c l hB
  have hN8 := c_spec_l01Next a c l hB s1 q1 8
  have hwl : (((rowsO L).take h).drop k).length = t.length := by rw [win_len (by omega) k2, k4, win_length (by omega) k2]
  have hwr : ((rowsF L).take h).drop k = rowsF t := by rw [rowsF_win, k4]
  have hkt : h - k = t.length := by rw [k4, win_length (by omega) k2]
  have hwl2 : (((rowsO (L.set k ((L.getD k []).set 0 0))).take h).drop k).length = t.length := by rw [win_len (by omega) (by rw [List.length_set]; exact k2), hkt]
  have hr : 1 ≤ (L.getD k []).length := by
    have h5 := (hsh.row (i := 0) (by omega)).2
    rw [k4, List.getD_eq_getElem?_getD, List.getElem?_drop, Nat.add_zero, List.getElem?_take_of_lt k1, ← List.getD_eq_getElem?_getD] at h5
    exact h5
  have hz2 : isPl m t = true ∧ 0 < nextX l s1 8 := by simpa [apZ] using hz
  obtain ⟨g1, g2⟩ := hz2
  rw [g1] at hI
  have hN : apN l m t s1 = nextS l s1 8 := if_pos g1
  have hN16 := c_spec_l01Next a c l hB _ (nextS_ok q1 8) 16
  have hL := c_spec_l01List a c l hB _ (nextS_ok (nextS_ok q1 8) 16) m (t.length : Int) (by omega)
  rw [Int.toNat_natCast] at hL
  have hD := c_spec_l02Draw a c l hB _ (nextS_ok (nextS_ok q1 8) 16)
  refine AWP.ghost (t := 0) rfl rfl ?_
  by_cases g3 : nextX l (apN l m t s1) 16 = 0
  · rw [show apM l m t s1 = drawM l (nextS l (apN l m t s1) 16) from if_pos g3, show apL l m t s1 = d2L l (nextS l (apN l m t s1) 16) from if_pos g3]
    rw [hN] at g3
    rw [hN]
    (repeat (first | ((with_reducible refine rgn_cons rfl (fun K hK => ?_)); simp only [go_sem, seval, ↓reduceIte, decide_true, decide_false, hwl, hwl2, hwr, hkt, g2, decide_true, rowsO_sizeT L k (by omega), rowsO_at L k (by omega), show (0 : Int) < (t.length : Int) by omega, Int.le_refl, Int.toNat_zero, List.take_zero, Nat.zero_mul, show (0 : Int) < ((L.getD k []).length : Int) by omega, intL_get _ 0 (show 0 < (L.getD k []).length by omega), rowsO_modify L k 0 0 (by omega), g3]; (first | refine hK _ _ _ (by simp only [go_sem, Nat.reduceEqDiff, ↓reduceIte]; rfl) ?_ | refine ⟨_, hF, hK _ _ _ (by simp only [go_sem, Nat.reduceEqDiff, ↓reduceIte]; rfl) ?_⟩ | refine ⟨_, hC0, hK _ _ _ (by simp only [go_sem, Nat.reduceEqDiff, ↓reduceIte]; rfl) ?_⟩ | refine ⟨_, hI, hK _ _ _ (by simp only [go_sem, Nat.reduceEqDiff, ↓reduceIte]; rfl) ?_⟩ | refine ⟨_, hN8, hK _ _ _ (by simp only [go_sem, Nat.reduceEqDiff, ↓reduceIte]; rfl) ?_⟩ | refine ⟨_, hN16, hK _ _ _ (by simp only [go_sem, Nat.reduceEqDiff, ↓reduceIte]; rfl) ?_⟩ | refine ⟨_, hL, hK _ _ _ (by simp only [go_sem, Nat.reduceEqDiff, ↓reduceIte]; rfl) ?_⟩ | refine ⟨_, hD, hK _ _ _ (by simp only [go_sem, Nat.reduceEqDiff, ↓reduceIte]; rfl) ?_⟩ | refine ⟨_, c_spec_l02Make _ _, hK _ _ _ (by simp only [go_sem, Nat.reduceEqDiff, ↓reduceIte]; rfl) ?_⟩); clear hK; clear K) | (with_reducible first | refine rgn_nil (by first | trivial | kernel_rfl) ?_ | refine AWP.seq ?_ | refine tX hC hP (by kernel_rfl) ?_ | refine aX hC hM hP (by kernel_rfl) ?_ | refine AWP.skip ?_ | refine AWP.label ?_ | refine AWP.exit ?_ | refine AWP.block ?_ | refine cTa ?_ | refine cFa ?_) | simp only [qS, Nat.reduceEqDiff, ↓reduceIte]))
    (refine AWP.ret ?_; refine retOk2 (by simp only [go_sem, seval, ↓reduceIte, decide_true, decide_false]; rfl) (by simp only [go_sem, seval, ↓reduceIte, decide_true, decide_false]; rfl) (by simp) ?_)
    rfl
  · rw [show apM l m t s1 = m from if_neg g3, show apL l m t s1 = lsL l m (nextS l (apN l m t s1) 16) t.length from if_neg g3]
    rw [hN] at g3
    rw [hN]
    (repeat (first | ((with_reducible refine rgn_cons rfl (fun K hK => ?_)); simp only [go_sem, seval, ↓reduceIte, decide_true, decide_false, hwl, hwl2, hwr, hkt, g2, decide_true, rowsO_sizeT L k (by omega), rowsO_at L k (by omega), show (0 : Int) < (t.length : Int) by omega, Int.le_refl, Int.toNat_zero, List.take_zero, Nat.zero_mul, show (0 : Int) < ((L.getD k []).length : Int) by omega, intL_get _ 0 (show 0 < (L.getD k []).length by omega), rowsO_modify L k 0 0 (by omega), beqF g3]; (first | refine hK _ _ _ (by simp only [go_sem, Nat.reduceEqDiff, ↓reduceIte]; rfl) ?_ | refine ⟨_, hF, hK _ _ _ (by simp only [go_sem, Nat.reduceEqDiff, ↓reduceIte]; rfl) ?_⟩ | refine ⟨_, hC0, hK _ _ _ (by simp only [go_sem, Nat.reduceEqDiff, ↓reduceIte]; rfl) ?_⟩ | refine ⟨_, hI, hK _ _ _ (by simp only [go_sem, Nat.reduceEqDiff, ↓reduceIte]; rfl) ?_⟩ | refine ⟨_, hN8, hK _ _ _ (by simp only [go_sem, Nat.reduceEqDiff, ↓reduceIte]; rfl) ?_⟩ | refine ⟨_, hN16, hK _ _ _ (by simp only [go_sem, Nat.reduceEqDiff, ↓reduceIte]; rfl) ?_⟩ | refine ⟨_, hL, hK _ _ _ (by simp only [go_sem, Nat.reduceEqDiff, ↓reduceIte]; rfl) ?_⟩ | refine ⟨_, hD, hK _ _ _ (by simp only [go_sem, Nat.reduceEqDiff, ↓reduceIte]; rfl) ?_⟩ | refine ⟨_, c_spec_l02Make _ _, hK _ _ _ (by simp only [go_sem, Nat.reduceEqDiff, ↓reduceIte]; rfl) ?_⟩); clear hK; clear K) | (with_reducible first | refine rgn_nil (by first | trivial | kernel_rfl) ?_ | refine AWP.seq ?_ | refine tX hC hP (by kernel_rfl) ?_ | refine aX hC hM hP (by kernel_rfl) ?_ | refine AWP.skip ?_ | refine AWP.label ?_ | refine AWP.exit ?_ | refine AWP.block ?_ | refine cTa ?_ | refine cFa ?_) | simp only [qS, Nat.reduceEqDiff, ↓reduceIte]))
    (refine AWP.ret ?_; refine retOk2 (by simp only [go_sem, seval, ↓reduceIte, decide_true, decide_false]; rfl) (by simp only [go_sem, seval, ↓reduceIte, decide_true, decide_false]; rfl) (by simp) ?_)
    rfl
set_option maxHeartbeats 4000000 in
theorem c_spec_DrawApplySeries_wn (a : Option Addr) (c : Nat) (l : List Int) (hB : Byt l) (m : Int) (t : List (List Int)) (s1 : Int × Int) (q1 : Sok l s1) (hsh : Shp t) (h1t : 1 ≤ t.length) (k h : Nat) (L : List (List Int)) (k1 : k < h) (k2 : h ≤ L.length) (k4 : t = (L.take h).drop k) (hC0 : AFn Tryz.prog (5000000 + 84) [.str (.src a c l), SRC a c l (from0 l)] (.tup [.agg [.int .i64 m, .win 27 k h (rowsO L)], SRC a c l s1])) (hz : apZ l m t s1 = false) : AFn Tryz.prog 16 [.str (.src a c l)] (.tup [.agg [.int .i64 (apM l m t s1), .sl true 2 (intL (apL l m t s1))], .agg [.int .i64 m, .win 27 k h (rowsO L)]]) := by
  refine AFn.of' ttOk (by decide) Tryz.func16 Tryz.ntmps16 (by rw [Tryz.results16]) (by rfl) (by rfl) (by simp) (by decide) (by simp only [go_sem, Nat.reduceAdd, ↓reduceIte]; rfl) mixed (fun C hP hM hC => ?_)
  have ht := hsh.1
  have hI := c_spec_l03Is m t hsh.sm
  have hF := c_spec_l01From a c l hB
  have hN8 := c_spec_l01Next a c l hB s1 q1 8
  have hwl : (((rowsO L).take h).drop k).length = t.length := by rw [win_len (by omega) k2, k4, win_length (by omega) k2]
  have hwr : ((rowsF L).take h).drop k = rowsF t := by rw [rowsF_win, k4]
  have hkt : h - k = t.length := by rw [k4, win_length (by omega) k2]
  have hwl2 : (((rowsO (L.set k ((L.getD k []).set 0 0))).take h).drop k).length = t.length := by rw [win_len (by omega) (by rw [List.length_set]; exact k2), hkt]
  cases g1 : isPl m t with
  | true =>
    have g2 : ¬ 0 < nextX l s1 8 := by
      have : decide (0 < nextX l s1 8) = false := by simpa [apZ, g1] using hz
      simpa using this
    rw [g1] at hI
    have hN : apN l m t s1 = nextS l s1 8 := if_pos g1
    have hN16 := c_spec_l01Next a c l hB _ (nextS_ok q1 8) 16
    have hL := c_spec_l01List a c l hB _ (nextS_ok (nextS_ok q1 8) 16) m (t.length : Int) (by omega)
    rw [Int.toNat_natCast] at hL
    have hD := c_spec_l02Draw a c l hB _ (nextS_ok (nextS_ok q1 8) 16)
    refine AWP.ghost (t := 0) rfl rfl ?_
    by_cases g3 : nextX l (apN l m t s1) 16 = 0
    · rw [show apM l m t s1 = drawM l (nextS l (apN l m t s1) 16) from if_pos g3, show apL l m t s1 = d2L l (nextS l (apN l m t s1) 16) from if_pos g3]
      rw [hN] at g3
      rw [hN]
      (repeat (first | ((with_reducible refine rgn_cons rfl (fun K hK => ?_)); simp only [go_sem, seval, ↓reduceIte, decide_true, decide_false, hwl, hwl2, hwr, hkt, g2, decide_false, g3]; (first | refine hK _ _ _ (by simp only [go_sem, Nat.reduceEqDiff, ↓reduceIte]; rfl) ?_ | refine ⟨_, hF, hK _ _ _ (by simp only [go_sem, Nat.reduceEqDiff, ↓reduceIte]; rfl) ?_⟩ | refine ⟨_, hC0, hK _ _ _ (by simp only [go_sem, Nat.reduceEqDiff, ↓reduceIte]; rfl) ?_⟩ | refine ⟨_, hI, hK _ _ _ (by simp only [go_sem, Nat.reduceEqDiff, ↓reduceIte]; rfl) ?_⟩ | refine ⟨_, hN8, hK _ _ _ (by simp only [go_sem, Nat.reduceEqDiff, ↓reduceIte]; rfl) ?_⟩ | refine ⟨_, hN16, hK _ _ _ (by simp only [go_sem, Nat.reduceEqDiff, ↓reduceIte]; rfl) ?_⟩ | refine ⟨_, hL, hK _ _ _ (by simp only [go_sem, Nat.reduceEqDiff, ↓reduceIte]; rfl) ?_⟩ | refine ⟨_, hD, hK _ _ _ (by simp only [go_sem, Nat.reduceEqDiff, ↓reduceIte]; rfl) ?_⟩ | refine ⟨_, c_spec_l02Make _ _, hK _ _ _ (by simp only [go_sem, Nat.reduceEqDiff, ↓reduceIte]; rfl) ?_⟩); clear hK; clear K) | (with_reducible first | refine rgn_nil (by first | trivial | kernel_rfl) ?_ | refine AWP.seq ?_ | refine tX hC hP (by kernel_rfl) ?_ | refine aX hC hM hP (by kernel_rfl) ?_ | refine AWP.skip ?_ | refine AWP.label ?_ | refine AWP.exit ?_ | refine AWP.block ?_ | refine cTa ?_ | refine cFa ?_) | simp only [qS, Nat.reduceEqDiff, ↓reduceIte]))
      (refine AWP.ret ?_; refine retOk2 (by simp only [go_sem, seval, ↓reduceIte, decide_true, decide_false]; rfl) (by simp only [go_sem, seval, ↓reduceIte, decide_true, decide_false]; rfl) (by simp) ?_)
      rfl
    · rw [show apM l m t s1 = m from if_neg g3, show apL l m t s1 = lsL l m (nextS l (apN l m t s1) 16) t.length from if_neg g3]
      rw [hN] at g3
      rw [hN]
      (repeat (first | ((with_reducible refine rgn_cons rfl (fun K hK => ?_)); simp only [go_sem, seval, ↓reduceIte, decide_true, decide_false, hwl, hwl2, hwr, hkt, g2, decide_false, beqF g3]; (first | refine hK _ _ _ (by simp only [go_sem, Nat.reduceEqDiff, ↓reduceIte]; rfl) ?_ | refine ⟨_, hF, hK _ _ _ (by simp only [go_sem, Nat.reduceEqDiff, ↓reduceIte]; rfl) ?_⟩ | refine ⟨_, hC0, hK _ _ _ (by simp only [go_sem, Nat.reduceEqDiff, ↓reduceIte]; rfl) ?_⟩ | refine ⟨_, hI, hK _ _ _ (by simp only [go_sem, Nat.reduceEqDiff, ↓reduceIte]; rfl) ?_⟩ | refine ⟨_, hN8, hK _ _ _ (by simp only [go_sem, Nat.reduceEqDiff, ↓reduceIte]; rfl) ?_⟩ | refine ⟨_, hN16, hK _ _ _ (by simp only [go_sem, Nat.reduceEqDiff, ↓reduceIte]; rfl) ?_⟩ | refine ⟨_, hL, hK _ _ _ (by simp only [go_sem, Nat.reduceEqDiff, ↓reduceIte]; rfl) ?_⟩ | refine ⟨_, hD, hK _ _ _ (by simp only [go_sem, Nat.reduceEqDiff, ↓reduceIte]; rfl) ?_⟩ | refine ⟨_, c_spec_l02Make _ _, hK _ _ _ (by simp only [go_sem, Nat.reduceEqDiff, ↓reduceIte]; rfl) ?_⟩); clear hK; clear K) | (with_reducible first | refine rgn_nil (by first | trivial | kernel_rfl) ?_ | refine AWP.seq ?_ | refine tX hC hP (by kernel_rfl) ?_ | refine aX hC hM hP (by kernel_rfl) ?_ | refine AWP.skip ?_ | refine AWP.label ?_ | refine AWP.exit ?_ | refine AWP.block ?_ | refine cTa ?_ | refine cFa ?_) | simp only [qS, Nat.reduceEqDiff, ↓reduceIte]))
      (refine AWP.ret ?_; refine retOk2 (by simp only [go_sem, seval, ↓reduceIte, decide_true, decide_false]; rfl) (by simp only [go_sem, seval, ↓reduceIte, decide_true, decide_false]; rfl) (by simp) ?_)
      rfl
  | false =>
    rw [g1] at hI
    have hN : apN l m t s1 = s1 := if_neg (by rw [g1]; exact fun h => by cases h)
    have hN16 := c_spec_l01Next a c l hB _ q1 16
    have hL := c_spec_l01List a c l hB _ (nextS_ok q1 16) m (t.length : Int) (by omega)
    rw [Int.toNat_natCast] at hL
    have hD := c_spec_l02Draw a c l hB _ (nextS_ok q1 16)
    refine AWP.ghost (t := 0) rfl rfl ?_
    by_cases g3 : nextX l (apN l m t s1) 16 = 0
    · rw [show apM l m t s1 = drawM l (nextS l (apN l m t s1) 16) from if_pos g3, show apL l m t s1 = d2L l (nextS l (apN l m t s1) 16) from if_pos g3]
      rw [hN] at g3
      rw [hN]
      (repeat (first | ((with_reducible refine rgn_cons rfl (fun K hK => ?_)); simp only [go_sem, seval, ↓reduceIte, decide_true, decide_false, hwl, hwl2, hwr, hkt, g3]; (first | refine hK _ _ _ (by simp only [go_sem, Nat.reduceEqDiff, ↓reduceIte]; rfl) ?_ | refine ⟨_, hF, hK _ _ _ (by simp only [go_sem, Nat.reduceEqDiff, ↓reduceIte]; rfl) ?_⟩ | refine ⟨_, hC0, hK _ _ _ (by simp only [go_sem, Nat.reduceEqDiff, ↓reduceIte]; rfl) ?_⟩ | refine ⟨_, hI, hK _ _ _ (by simp only [go_sem, Nat.reduceEqDiff, ↓reduceIte]; rfl) ?_⟩ | refine ⟨_, hN8, hK _ _ _ (by simp only [go_sem, Nat.reduceEqDiff, ↓reduceIte]; rfl) ?_⟩ | refine ⟨_, hN16, hK _ _ _ (by simp only [go_sem, Nat.reduceEqDiff, ↓reduceIte]; rfl) ?_⟩ | refine ⟨_, hL, hK _ _ _ (by simp only [go_sem, Nat.reduceEqDiff, ↓reduceIte]; rfl) ?_⟩ | refine ⟨_, hD, hK _ _ _ (by simp only [go_sem, Nat.reduceEqDiff, ↓reduceIte]; rfl) ?_⟩ | refine ⟨_, c_spec_l02Make _ _, hK _ _ _ (by simp only [go_sem, Nat.reduceEqDiff, ↓reduceIte]; rfl) ?_⟩); clear hK; clear K) | (with_reducible first | refine rgn_nil (by first | trivial | kernel_rfl) ?_ | refine AWP.seq ?_ | refine tX hC hP (by kernel_rfl) ?_ | refine aX hC hM hP (by kernel_rfl) ?_ | refine AWP.skip ?_ | refine AWP.label ?_ | refine AWP.exit ?_ | refine AWP.block ?_ | refine cTa ?_ | refine cFa ?_) | simp only [qS, Nat.reduceEqDiff, ↓reduceIte]))
      (refine AWP.ret ?_; refine retOk2 (by simp only [go_sem, seval, ↓reduceIte, decide_true, decide_false]; rfl) (by simp only [go_sem, seval, ↓reduceIte, decide_true, decide_false]; rfl) (by simp) ?_)
      rfl
    · rw [show apM l m t s1 = m from if_neg g3, show apL l m t s1 = lsL l m (nextS l (apN l m t s1) 16) t.length from if_neg g3]
      rw [hN] at g3
      rw [hN]
      (repeat (first | ((with_reducible refine rgn_cons rfl (fun K hK => ?_)); simp only [go_sem, seval, ↓reduceIte, decide_true, decide_false, hwl, hwl2, hwr, hkt, beqF g3]; (first | refine hK _ _ _ (by simp only [go_sem, Nat.reduceEqDiff, ↓reduceIte]; rfl) ?_ | refine ⟨_, hF, hK _ _ _ (by simp only [go_sem, Nat.reduceEqDiff, ↓reduceIte]; rfl) ?_⟩ | refine ⟨_, hC0, hK _ _ _ (by simp only [go_sem, Nat.reduceEqDiff, ↓reduceIte]; rfl) ?_⟩ | refine ⟨_, hI, hK _ _ _ (by simp only [go_sem, Nat.reduceEqDiff, ↓reduceIte]; rfl) ?_⟩ | refine ⟨_, hN8, hK _ _ _ (by simp only [go_sem, Nat.reduceEqDiff, ↓reduceIte]; rfl) ?_⟩ | refine ⟨_, hN16, hK _ _ _ (by simp only [go_sem, Nat.reduceEqDiff, ↓reduceIte]; rfl) ?_⟩ | refine ⟨_, hL, hK _ _ _ (by simp only [go_sem, Nat.reduceEqDiff, ↓reduceIte]; rfl) ?_⟩ | refine ⟨_, hD, hK _ _ _ (by simp only [go_sem, Nat.reduceEqDiff, ↓reduceIte]; rfl) ?_⟩ | refine ⟨_, c_spec_l02Make _ _, hK _ _ _ (by simp only [go_sem, Nat.reduceEqDiff, ↓reduceIte]; rfl) ?_⟩); clear hK; clear K) | (with_reducible first | refine rgn_nil (by first | trivial | kernel_rfl) ?_ | refine AWP.seq ?_ | refine tX hC hP (by kernel_rfl) ?_ | refine aX hC hM hP (by kernel_rfl) ?_ | refine AWP.skip ?_ | refine AWP.label ?_ | refine AWP.exit ?_ | refine AWP.block ?_ | refine cTa ?_ | refine cFa ?_) | simp only [qS, Nat.reduceEqDiff, ↓reduceIte]))
      (refine AWP.ret ?_; refine retOk2 (by simp only [go_sem, seval, ↓reduceIte, decide_true, decide_false]; rfl) (by simp only [go_sem, seval, ↓reduceIte, decide_true, decide_false]; rfl) (by simp) ?_)
      rfl
theorem DrawApplySeries_ex {a : Option Addr} {c : Nat} {l : List Int} (hB : Byt l) : ∃ R m t ma la, Shp t ∧ 1 ≤ t.length ∧ PlT R m t ∧ la.length ≤ 1000 ∧ 1 ≤ la.length ∧ AFn Tryz.prog 16 [.str (.src a c l)] (.tup [.agg [.int .i64 ma, .sl true 2 (intL la)], R]) := by
  obtain ⟨R, m, t, s1, q1, hsh, h1, hR, hC0⟩ := l03Spoil_ex (a := a) (c := c) hB (from0_ok l)
  have ht := hsh.1
  have e1 := lsL_length l m (nextS l (apN l m t s1) 16) t.length
  have f3 : (apL l m t s1).length ≤ 1000 ∧ 1 ≤ (apL l m t s1).length := by
    unfold apL
    split
    · have := d2L_length hB (nextS l (apN l m t s1) 16); omega
    · omega
  cases hz : apZ l m t s1 with
  | true =>
    rcases hR with rfl | ⟨k, h, L, k1, k2, k3, k4, rfl⟩
    · exact ⟨_, m, z00 t, _, _, hsh.set 0 0 0, by rw [z00, List.length_set]; exact h1, .inl rfl, f3.1, f3.2, c_spec_DrawApplySeries_pz a c l hB m t s1 q1 hsh h1 hC0 hz⟩
    · have hkh : k < h := by
        have := win_length k1 k2
        rw [← k4] at this; omega
      refine ⟨_, m, z00 t, _, _, hsh.set 0 0 0, by rw [z00, List.length_set]; exact h1, .inr ⟨k, h, L.set k ((L.getD k []).set 0 0), k1, by rw [List.length_set]; exact k2, by rw [List.length_set]; exact k3, ?_, rfl⟩, f3.1, f3.2, c_spec_DrawApplySeries_wz a c l hB m t s1 q1 hsh h1 k h L hkh k2 k4 hC0 hz⟩
      rw [winz hkh k2, k4]
  | false =>
    rcases hR with rfl | ⟨k, h, L, k1, k2, k3, k4, rfl⟩
    · exact ⟨_, m, t, _, _, hsh, h1, .inl rfl, f3.1, f3.2, c_spec_DrawApplySeries_pn a c l hB m t s1 q1 hsh h1 hC0 hz⟩
    · have hkh : k < h := by
        have := win_length k1 k2
        rw [← k4] at this; omega
      exact ⟨_, m, t, _, _, hsh, h1, .inr ⟨k, h, L, k1, k2, k3, k4, rfl⟩, f3.1, f3.2, c_spec_DrawApplySeries_wn a c l hB m t s1 q1 hsh h1 k h L hkh k2 k4 hC0 hz⟩
-- A plane and two numbers.
set_option maxHeartbeats 4000000 in
theorem c_spec_DrawCoefficientOf (a : Option Addr) (c : Nat) (l : List Int) (hB : Byt l) (R : T) (m x y : Int) (t : List (List Int)) (s1 s2 s3 : Int × Int) (hR : PlT R m t) (hsh : Shp t) (h1t : 1 ≤ t.length) (hC0 : AFn Tryz.prog (5000000 + 84) [.str (.src a c l), SRC a c l (from0 l)] (.tup [R, SRC a c l s1])) (hC1 : AFn Tryz.prog (5000000 + 97) [.str (.src a c l), SRC a c l s1, .int .i64 ((t.length : Int) - 1)] (.tup [.int .i64 x, SRC a c l s2])) (hC2 : AFn Tryz.prog (5000000 + 97) [.str (.src a c l), SRC a c l s2, .int .i64 (if decide (0 ≤ x) && decide (x ≤ (t.length : Int) - 1) then (t.length : Int) - 1 - x else 3)] (.tup [.int .i64 y, SRC a c l s3])) : AFn Tryz.prog 29 [.str (.src a c l)] (.tup [R, .int .i64 x, .int .i64 y]) := by
  refine AFn.of' ttOk (by decide) Tryz.func29 Tryz.ntmps29 (by rw [Tryz.results29]) (by rfl) (by rfl) (by simp) (by decide) (by simp only [go_sem, Nat.reduceAdd, ↓reduceIte]; rfl) mixed (fun C hP hM hC => ?_)
  have ht := hsh.1
  have hw := wid ((t.length : Int) - 1) (by omega) (by omega)
  have hIn := c_spec_l01In x 0 ((t.length : Int) - 1)
  refine AWP.ghost (t := 0) rfl rfl ?_
  cases g : (decide (0 ≤ x) && decide (x ≤ (t.length : Int) - 1)) with
  | true =>
    have hx : 0 ≤ x ∧ x ≤ (t.length : Int) - 1 := by simpa using g
    have hw2 := wid ((t.length : Int) - 1 - x) (by omega) (by omega)
    rw [g] at hC2 hIn
    simp only [if_true] at hC2
    rcases hR with rfl | ⟨k, h, L, k1, k2, k3, k4, rfl⟩
    · (repeat (first | ((with_reducible refine rgn_cons rfl (fun K hK => ?_)); simp only [go_sem, seval, ↓reduceIte, decide_true, decide_false, rowsO_length, hw, hw2]; (first | refine hK _ _ _ (by simp only [go_sem, Nat.reduceEqDiff, ↓reduceIte]; rfl) ?_ | refine ⟨_, c_spec_l01From a c l hB, hK _ _ _ (by simp only [go_sem, Nat.reduceEqDiff, ↓reduceIte]; rfl) ?_⟩ | refine ⟨_, hC0, hK _ _ _ (by simp only [go_sem, Nat.reduceEqDiff, ↓reduceIte]; rfl) ?_⟩ | refine ⟨_, hC1, hK _ _ _ (by simp only [go_sem, Nat.reduceEqDiff, ↓reduceIte]; rfl) ?_⟩ | refine ⟨_, hIn, hK _ _ _ (by simp only [go_sem, Nat.reduceEqDiff, ↓reduceIte]; rfl) ?_⟩ | refine ⟨_, hC2, hK _ _ _ (by simp only [go_sem, Nat.reduceEqDiff, ↓reduceIte]; rfl) ?_⟩); clear hK; clear K) | (with_reducible first | refine rgn_nil (by first | trivial | kernel_rfl) ?_ | refine AWP.seq ?_ | refine tX hC hP (by kernel_rfl) ?_ | refine aX hC hM hP (by kernel_rfl) ?_ | refine AWP.skip ?_ | refine AWP.label ?_ | refine AWP.exit ?_ | refine AWP.block ?_ | refine cTa ?_ | refine cFa ?_) | simp only [qS, Nat.reduceEqDiff, ↓reduceIte]))
      (refine AWP.ret ?_; refine retOk3 (by simp only [go_sem, seval, ↓reduceIte, decide_true, decide_false]; rfl) (by simp only [go_sem, seval, ↓reduceIte, decide_true, decide_false]; rfl) (by simp only [go_sem, seval, ↓reduceIte, decide_true, decide_false]; rfl) (by simp) ?_)
      rfl
    · have hwl : (((rowsO L).take h).drop k).length = t.length := by rw [win_len k1 k2, k4, win_length k1 k2]
      (repeat (first | ((with_reducible refine rgn_cons rfl (fun K hK => ?_)); simp only [go_sem, seval, ↓reduceIte, decide_true, decide_false, hwl, hw, hw2]; (first | refine hK _ _ _ (by simp only [go_sem, Nat.reduceEqDiff, ↓reduceIte]; rfl) ?_ | refine ⟨_, c_spec_l01From a c l hB, hK _ _ _ (by simp only [go_sem, Nat.reduceEqDiff, ↓reduceIte]; rfl) ?_⟩ | refine ⟨_, hC0, hK _ _ _ (by simp only [go_sem, Nat.reduceEqDiff, ↓reduceIte]; rfl) ?_⟩ | refine ⟨_, hC1, hK _ _ _ (by simp only [go_sem, Nat.reduceEqDiff, ↓reduceIte]; rfl) ?_⟩ | refine ⟨_, hIn, hK _ _ _ (by simp only [go_sem, Nat.reduceEqDiff, ↓reduceIte]; rfl) ?_⟩ | refine ⟨_, hC2, hK _ _ _ (by simp only [go_sem, Nat.reduceEqDiff, ↓reduceIte]; rfl) ?_⟩); clear hK; clear K) | (with_reducible first | refine rgn_nil (by first | trivial | kernel_rfl) ?_ | refine AWP.seq ?_ | refine tX hC hP (by kernel_rfl) ?_ | refine aX hC hM hP (by kernel_rfl) ?_ | refine AWP.skip ?_ | refine AWP.label ?_ | refine AWP.exit ?_ | refine AWP.block ?_ | refine cTa ?_ | refine cFa ?_) | simp only [qS, Nat.reduceEqDiff, ↓reduceIte]))
      (refine AWP.ret ?_; refine retOk3 (by simp only [go_sem, seval, ↓reduceIte, decide_true, decide_false]; rfl) (by simp only [go_sem, seval, ↓reduceIte, decide_true, decide_false]; rfl) (by simp only [go_sem, seval, ↓reduceIte, decide_true, decide_false]; rfl) (by simp) ?_)
      rfl
  | false =>
    rw [g] at hC2 hIn
    simp only [Bool.false_eq_true, if_false] at hC2
    rcases hR with rfl | ⟨k, h, L, k1, k2, k3, k4, rfl⟩
    · (repeat (first | ((with_reducible refine rgn_cons rfl (fun K hK => ?_)); simp only [go_sem, seval, ↓reduceIte, decide_true, decide_false, rowsO_length, hw]; (first | refine hK _ _ _ (by simp only [go_sem, Nat.reduceEqDiff, ↓reduceIte]; rfl) ?_ | refine ⟨_, c_spec_l01From a c l hB, hK _ _ _ (by simp only [go_sem, Nat.reduceEqDiff, ↓reduceIte]; rfl) ?_⟩ | refine ⟨_, hC0, hK _ _ _ (by simp only [go_sem, Nat.reduceEqDiff, ↓reduceIte]; rfl) ?_⟩ | refine ⟨_, hC1, hK _ _ _ (by simp only [go_sem, Nat.reduceEqDiff, ↓reduceIte]; rfl) ?_⟩ | refine ⟨_, hIn, hK _ _ _ (by simp only [go_sem, Nat.reduceEqDiff, ↓reduceIte]; rfl) ?_⟩ | refine ⟨_, hC2, hK _ _ _ (by simp only [go_sem, Nat.reduceEqDiff, ↓reduceIte]; rfl) ?_⟩); clear hK; clear K) | (with_reducible first | refine rgn_nil (by first | trivial | kernel_rfl) ?_ | refine AWP.seq ?_ | refine tX hC hP (by kernel_rfl) ?_ | refine aX hC hM hP (by kernel_rfl) ?_ | refine AWP.skip ?_ | refine AWP.label ?_ | refine AWP.exit ?_ | refine AWP.block ?_ | refine cTa ?_ | refine cFa ?_) | simp only [qS, Nat.reduceEqDiff, ↓reduceIte]))
      (refine AWP.ret ?_; refine retOk3 (by simp only [go_sem, seval, ↓reduceIte, decide_true, decide_false]; rfl) (by simp only [go_sem, seval, ↓reduceIte, decide_true, decide_false]; rfl) (by simp only [go_sem, seval, ↓reduceIte, decide_true, decide_false]; rfl) (by simp) ?_)
      rfl
    · have hwl : (((rowsO L).take h).drop k).length = t.length := by rw [win_len k1 k2, k4, win_length k1 k2]
      (repeat (first | ((with_reducible refine rgn_cons rfl (fun K hK => ?_)); simp only [go_sem, seval, ↓reduceIte, decide_true, decide_false, hwl, hw]; (first | refine hK _ _ _ (by simp only [go_sem, Nat.reduceEqDiff, ↓reduceIte]; rfl) ?_ | refine ⟨_, c_spec_l01From a c l hB, hK _ _ _ (by simp only [go_sem, Nat.reduceEqDiff, ↓reduceIte]; rfl) ?_⟩ | refine ⟨_, hC0, hK _ _ _ (by simp only [go_sem, Nat.reduceEqDiff, ↓reduceIte]; rfl) ?_⟩ | refine ⟨_, hC1, hK _ _ _ (by simp only [go_sem, Nat.reduceEqDiff, ↓reduceIte]; rfl) ?_⟩ | refine ⟨_, hIn, hK _ _ _ (by simp only [go_sem, Nat.reduceEqDiff, ↓reduceIte]; rfl) ?_⟩ | refine ⟨_, hC2, hK _ _ _ (by simp only [go_sem, Nat.reduceEqDiff, ↓reduceIte]; rfl) ?_⟩); clear hK; clear K) | (with_reducible first | refine rgn_nil (by first | trivial | kernel_rfl) ?_ | refine AWP.seq ?_ | refine tX hC hP (by kernel_rfl) ?_ | refine aX hC hM hP (by kernel_rfl) ?_ | refine AWP.skip ?_ | refine AWP.label ?_ | refine AWP.exit ?_ | refine AWP.block ?_ | refine cTa ?_ | refine cFa ?_) | simp only [qS, Nat.reduceEqDiff, ↓reduceIte]))
      (refine AWP.ret ?_; refine retOk3 (by simp only [go_sem, seval, ↓reduceIte, decide_true, decide_false]; rfl) (by simp only [go_sem, seval, ↓reduceIte, decide_true, decide_false]; rfl) (by simp only [go_sem, seval, ↓reduceIte, decide_true, decide_false]; rfl) (by simp) ?_)
      rfl
theorem DrawCoefficientOf_ex {a : Option Addr} {c : Nat} {l : List Int} (hB : Byt l) : ∃ R m t x y, Shp t ∧ 1 ≤ t.length ∧ PlT R m t ∧ AFn Tryz.prog 29 [.str (.src a c l)] (.tup [R, .int .i64 x, .int .i64 y]) := by
  obtain ⟨R, m, t, s1, q1, hsh, h1, hR, hC0⟩ := l03Spoil_ex (a := a) (c := c) hB (from0_ok l)
  have ht := hsh.1
  obtain ⟨x, s2, q2, hC1⟩ := l01Count_su (a := a) (c := c) hB q1 ((t.length : Int) - 1) (by omega)
  obtain ⟨y, s3, q3, hC2⟩ := l01Count_su (a := a) (c := c) hB q2 (if decide (0 ≤ x) && decide (x ≤ (t.length : Int) - 1) then (t.length : Int) - 1 - x else 3) (by
    split
    · rename_i h
      have : 0 ≤ x ∧ x ≤ (t.length : Int) - 1 := by simpa using h
      omega
    · omega)
  exact ⟨R, m, t, x, y, hsh, h1, hR, c_spec_DrawCoefficientOf a c l hB R m x y t s1 s2 s3 hR hsh h1 hC0 hC1 hC2⟩
end Go.Proofs.YtapdekacpecgiaaGreat
