/-
  FnBigVectors.
-/
import Derived.Test.YtccjfbfebgfgoaaVb
import Derived.Test.YtccjfbfebgfgoaaDy
import Derived.Test.YtccjfbfebgfgoaaBy
namespace Go.Proofs.Ytccjfbfebgfgoaa
open Go.RowKit
set_option linter.unusedSimpArgs false
set_option linter.unusedVariables false
set_option linter.unusedSectionVars false
set_option maxRecDepth 20000
-- FnBigVectors.
set_option maxHeartbeats 8000000 in
theorem c_laws_FnBigVectors (a : Option Addr) (c : Nat) (l : List Int) (hlen : l.length ≤ 9223372036854775807) (hx : ∀ x ∈ l, 0 ≤ x ∧ x ≤ 255) : AFn Try.prog 3 [.str (.src a c l)] (.bool true) := by
  refine AFn.of' ttOk (by decide) Try.func3 Try.ntmps3 (by rw [Try.results3]) (by rfl) (by rfl) (by simp) (by decide) (by simp only [go_sem, Nat.reduceAdd, ↓reduceIte]; rfl) mixed (fun C hP hM hC => ?_)
  by_cases hbig : (4096 : Int) < (l.length : Int)
  · have hb := c_laws_big a c l
    rw [decide_eq_true hbig] at hb
    (repeat (first | ((with_reducible refine rgn_cons rfl (fun K hK => ?_)); simp only [go_sem, seval, ↓reduceIte, decide_true, decide_false, hbig, decide_true]; (first | refine hK _ _ _ (by simp only [go_sem, Nat.reduceEqDiff, ↓reduceIte]; rfl) ?_ | refine ⟨_, hb, hK _ _ _ (by simp only [go_sem, Nat.reduceEqDiff, ↓reduceIte]; rfl) ?_⟩); clear hK; clear K) | (with_reducible first | refine rgn_nil (by first | trivial | kernel_rfl) ?_ | refine AWP.seq ?_ | refine tX hC hP (by kernel_rfl) ?_ | refine aX hC hM hP (by kernel_rfl) ?_ | refine AWP.skip ?_ | refine AWP.label ?_ | refine AWP.exit ?_ | refine AWP.block ?_ | refine cT (by simp only [go_sem, Nat.reduceEqDiff, ↓reduceIte]; with_reducible rfl) ?_ | refine cF (by simp only [go_sem, Nat.reduceEqDiff, ↓reduceIte]; with_reducible rfl) ?_) | simp only [qS, Nat.reduceEqDiff, ↓reduceIte]))
    (refine AWP.ret ?_; first | refine retOk1 (by simp only [go_sem, seval, ↓reduceIte, decide_true, decide_false]; rfl) ?_ | refine retOk2 (by simp only [go_sem, seval, ↓reduceIte, decide_true, decide_false]; rfl) (by simp only [go_sem, seval, ↓reduceIte, decide_true, decide_false]; rfl) (by simp) ?_ | refine retOk3 (by simp only [go_sem, seval, ↓reduceIte, decide_true, decide_false]; rfl) (by simp only [go_sem, seval, ↓reduceIte, decide_true, decide_false]; rfl) (by simp only [go_sem, seval, ↓reduceIte, decide_true, decide_false]; rfl) (by simp) ?_)
    rfl
  have hb := c_laws_big a c l
  rw [decide_eq_false hbig] at hb
  have hB : Byt l := ⟨by omega, hx⟩
  obtain ⟨m1, l1, m2, l2, h1, h2, hP1⟩ := l14Pair_ex (a := a) (c := c) hB
  have hD := c_spec_DrawMultiplyBig a c l m1 m2 l1 l2 hP1
  by_cases hc : twoB m1 l1 m2 l2 = 0
  · obtain ⟨b1, b2, rfl, hl⟩ := twoB_zero hc
    obtain ⟨d, hl1, v1⟩ := bv_of b1
    obtain ⟨d', hl2, v2⟩ := bv_of b2
    obtain rfl : d' = d := by omega
    have hm : 1 < m2 := by have := v1.m1; omega
    obtain ⟨G, r1⟩ := Rep.of v1.num v1.one
    obtain ⟨H, r2⟩ := Rep.of v2.num v2.one
    have rP := r1.prod hm r2
    have rS := r1.times (by omega) r2
    have rQ := r2.prod hm r2
    have vP := v1.rep r1 rP
    have vS := v1.rep r1 rS
    have vQ := v1.rep r1 rQ
    have rU := Rep.rep (z := 1) (d := d') hm (n := 1) (by omega)
    have vU := v1.rep r1 rU
    have rL := rP.prod hm r2
    have rR := rS.prod hm r2
    have vI : BV m2 d' (invS m2 l1 d') := ⟨⟨invS_length _ _ _, invS_num (by omega) _ _⟩, invS_zero hm v1.one, v1.d1, v1.d2, v1.m1, v1.m2⟩
    have e1 : prodL m2 l2 l1 d' = prodL m2 l1 l2 d' := Rep.unique (by omega) (r2.prod hm r1) rP (fun k _ _ => Int.mul_comm _ _)
    have e2 : prodL m2 l1 (prodL m2 l2 l2 d') d' = prodL m2 (prodL m2 l1 l2 d') l2 d' := Rep.unique (by omega) (r1.prod hm rQ) rL (fun k _ _ => (Int.mul_assoc _ _ _).symm)
    have e3 : timesL m2 (prodL m2 l1 l2 d') (prodL m2 l2 l2 d') d' = prodL m2 (timesL m2 l1 l2 d') l2 d' := Rep.unique (by omega) (rP.times (by omega) rQ) rR (fun k _ _ => (Int.add_mul _ _ _).symm)
    have e4 : prodL m2 l1 (geo m2 1 1 d') d' = l1 := Rep.unique (by omega) (r1.prod hm rU) r1 (fun k _ _ => by rw [gH, Nat.mod_one, if_pos rfl, Int.one_pow]; simp)
    have e5 : timesL m2 l1 (invS m2 l1 d') d' = oneL d' := inv_times hm v1.one
    have e6 : powL m2 l1 0 d' = oneL d' := pwL_zero
    have c1 := mulC v2 v1; rw [e1] at c1
    have c2 := mulC v1 vQ; rw [e2] at c2
    have c3 := addC vP vQ; rw [e3] at c3
    have c4 := mulC v1 vU; rw [e4] at c4
    have c5 := addC v1 vI; rw [e5] at c5
    have c6 := mulnC v1 0 (by omega); rw [e6] at c6
    have g1 := ghC v1; rw [r1.ghosts hm] at g1
    have g2 := ghC v2; rw [r2.ghosts hm] at g2
    have g3 := ghC vP; rw [rP.ghosts hm] at g3
    have g4 := ghC vS; rw [rS.ghosts hm] at g4
    have hone : (oneL d').length ≤ 1099511627776 := by rw [oneL_length]; have := v1.d2; omega
    have hd := v1.d2
    (repeat (first | ((with_reducible refine rgn_cons rfl (fun K hK => ?_)); simp only [go_sem, seval, ↓reduceIte, decide_true, decide_false, hbig, decide_false, show (l1.length : Int) = (d' : Int) + 1 by omega, show (d' : Int) + 1 - 1 = (d' : Int) by omega, wid (d' : Int) (by omega) (by omega), tab_length]; (first | refine hK _ _ _ (by simp only [go_sem, Nat.reduceEqDiff, ↓reduceIte]; rfl) ?_ | refine ⟨_, hb, hK _ _ _ (by simp only [go_sem, Nat.reduceEqDiff, ↓reduceIte]; rfl) ?_⟩ | refine ⟨_, hD, hK _ _ _ (by simp only [go_sem, Nat.reduceEqDiff, ↓reduceIte]; rfl) ?_⟩ | refine ⟨_, mulC v1 v2, hK _ _ _ (by simp only [go_sem, Nat.reduceEqDiff, ↓reduceIte]; rfl) ?_⟩ | refine ⟨_, mulS v1 v2, hK _ _ _ (by simp only [go_sem, Nat.reduceEqDiff, ↓reduceIte]; rfl) ?_⟩ | refine ⟨_, addC v1 v2, hK _ _ _ (by simp only [go_sem, Nat.reduceEqDiff, ↓reduceIte]; rfl) ?_⟩ | refine ⟨_, addS v1 v2, hK _ _ _ (by simp only [go_sem, Nat.reduceEqDiff, ↓reduceIte]; rfl) ?_⟩ | refine ⟨_, c_laws_series5 m2 (prodL m2 l1 l2 d') vP.sh, hK _ _ _ (by simp only [go_sem, Nat.reduceEqDiff, ↓reduceIte]; rfl) ?_⟩ | refine ⟨_, c_laws_series5 m2 (timesL m2 l1 l2 d') vS.sh, hK _ _ _ (by simp only [go_sem, Nat.reduceEqDiff, ↓reduceIte]; rfl) ?_⟩ | refine ⟨_, c_impl_IsBigVector m2 l1 v1.sh, hK _ _ _ (by simp only [go_sem, Nat.reduceEqDiff, ↓reduceIte]; rfl) ?_⟩ | refine ⟨_, c_spec_IsBigVector m2 l1 v1.sh, hK _ _ _ (by simp only [go_sem, Nat.reduceEqDiff, ↓reduceIte]; rfl) ?_⟩ | refine ⟨_, c1, hK _ _ _ (by simp only [go_sem, Nat.reduceEqDiff, ↓reduceIte]; rfl) ?_⟩ | refine ⟨_, mulC vP v2, hK _ _ _ (by simp only [go_sem, Nat.reduceEqDiff, ↓reduceIte]; rfl) ?_⟩ | refine ⟨_, mulC v2 v2, hK _ _ _ (by simp only [go_sem, Nat.reduceEqDiff, ↓reduceIte]; rfl) ?_⟩ | refine ⟨_, c2, hK _ _ _ (by simp only [go_sem, Nat.reduceEqDiff, ↓reduceIte]; rfl) ?_⟩ | refine ⟨_, mulC vS v2, hK _ _ _ (by simp only [go_sem, Nat.reduceEqDiff, ↓reduceIte]; rfl) ?_⟩ | refine ⟨_, c3, hK _ _ _ (by simp only [go_sem, Nat.reduceEqDiff, ↓reduceIte]; rfl) ?_⟩ | refine ⟨_, repCC v1, hK _ _ _ (by simp only [go_sem, Nat.reduceEqDiff, ↓reduceIte]; rfl) ?_⟩ | refine ⟨_, c4, hK _ _ _ (by simp only [go_sem, Nat.reduceEqDiff, ↓reduceIte]; rfl) ?_⟩ | refine ⟨_, negC v1, hK _ _ _ (by simp only [go_sem, Nat.reduceEqDiff, ↓reduceIte]; rfl) ?_⟩ | refine ⟨_, c5, hK _ _ _ (by simp only [go_sem, Nat.reduceEqDiff, ↓reduceIte]; rfl) ?_⟩ | refine ⟨_, c6, hK _ _ _ (by simp only [go_sem, Nat.reduceEqDiff, ↓reduceIte]; rfl) ?_⟩ | refine ⟨_, c_laws_series5 m2 (prodL m2 (prodL m2 l1 l2 d') l2 d') (v1.rep r1 rL).sh, hK _ _ _ (by simp only [go_sem, Nat.reduceEqDiff, ↓reduceIte]; rfl) ?_⟩ | refine ⟨_, c_laws_series5 m2 (prodL m2 (timesL m2 l1 l2 d') l2 d') (v1.rep r1 rR).sh, hK _ _ _ (by simp only [go_sem, Nat.reduceEqDiff, ↓reduceIte]; rfl) ?_⟩ | refine ⟨_, c_laws_series5 m2 l1 v1.sh, hK _ _ _ (by simp only [go_sem, Nat.reduceEqDiff, ↓reduceIte]; rfl) ?_⟩ | refine ⟨_, c_laws_series5 m2 (oneL d') hone, hK _ _ _ (by simp only [go_sem, Nat.reduceEqDiff, ↓reduceIte]; rfl) ?_⟩ | refine ⟨_, g1, hK _ _ _ (by simp only [go_sem, Nat.reduceEqDiff, ↓reduceIte]; rfl) ?_⟩ | refine ⟨_, g2, hK _ _ _ (by simp only [go_sem, Nat.reduceEqDiff, ↓reduceIte]; rfl) ?_⟩ | refine ⟨_, g3, hK _ _ _ (by simp only [go_sem, Nat.reduceEqDiff, ↓reduceIte]; rfl) ?_⟩ | refine ⟨_, g4, hK _ _ _ (by simp only [go_sem, Nat.reduceEqDiff, ↓reduceIte]; rfl) ?_⟩); clear hK; clear K) | (with_reducible first | refine rgn_nil (by first | trivial | kernel_rfl) ?_ | refine AWP.seq ?_ | refine tX hC hP (by kernel_rfl) ?_ | refine aX hC hM hP (by kernel_rfl) ?_ | refine AWP.skip ?_ | refine AWP.label ?_ | refine AWP.exit ?_ | refine AWP.block ?_ | refine cT (by simp only [go_sem, Nat.reduceEqDiff, ↓reduceIte]; with_reducible rfl) ?_ | refine cF (by simp only [go_sem, Nat.reduceEqDiff, ↓reduceIte]; with_reducible rfl) ?_) | simp only [qS, Nat.reduceEqDiff, ↓reduceIte]))
    refine AWP.loop (fun i : Nat => [(45, ⟨0, .val (.int .i64 i)⟩), (14, ⟨0, .val (.int .i64 d')⟩), (13, ⟨0, .val (.int .i64 m2)⟩), (41, ⟨1, .own (.sl true 2 (intL (tab d' fun i => (G (i + 1) * H (i + 1)) % m2)))⟩), (37, ⟨1, .own (.sl true 2 (intL (tab d' fun i => G (i + 1) % m2)))⟩), (39, ⟨1, .own (.sl true 2 (intL (tab d' fun i => H (i + 1) % m2)))⟩), (43, ⟨1, .own (.sl true 2 (intL (tab d' fun i => (G (i + 1) + H (i + 1)) % m2)))⟩)]) (fun i => i ≤ d') (fun i => d' - i) 0 (Nat.zero_le _) (fun i => rfl) ?_ (fun i hi => ?_)
    · simp [Sub, lk]
    · (repeat (first | ((with_reducible refine rgn_cons rfl (fun K hK => ?_)); simp only [go_sem, seval, ↓reduceIte, decide_true, decide_false]; (refine hK _ _ _ (by simp only [go_sem, Nat.reduceEqDiff, ↓reduceIte]; rfl) ?_); clear hK; clear K) | (with_reducible first | refine rgn_nil (by first | trivial | kernel_rfl) ?_ | refine AWP.seq ?_ | refine tX hC hP (by kernel_rfl) ?_ | refine aX hC hM hP (by kernel_rfl) ?_ | refine AWP.skip ?_ | refine AWP.label ?_ | refine AWP.exit ?_ | refine AWP.block ?_ | refine cT (by simp only [go_sem, Nat.reduceEqDiff, ↓reduceIte]; with_reducible rfl) ?_ | refine cF (by simp only [go_sem, Nat.reduceEqDiff, ↓reduceIte]; with_reducible rfl) ?_) | simp only [qS, Nat.reduceEqDiff, ↓reduceIte]))
      refine AWP.cond (by decide) rfl (fun h => ?_) (fun h => ?_)
      · have hlt : i < d' := by simpa using h
        have hI : (i : Int) < (d' : Int) := by omega
        have p1 : 0 ≤ G (i + 1) % m2 := Int.emod_nonneg _ (by omega)
        have p2 : G (i + 1) % m2 < m2 := Int.emod_lt_of_pos _ (by omega)
        have p3 : 0 ≤ H (i + 1) % m2 := Int.emod_nonneg _ (by omega)
        have p4 : H (i + 1) % m2 < m2 := Int.emod_lt_of_pos _ (by omega)
        have p5 := v1.m2
        have p6 := mul_bound4 p1 p2 p3 p4 p5
        have q1 : ∀ f : Nat → Int, i < (tab d' f).length := fun f => by rw [tab_length]; exact hlt
        have q0 : ∀ f : Nat → Int, (intL (tab d' f)).getD i .any = .int .i64 (f i) := fun f => by rw [intL_getD _ i (q1 f), tab_getD hlt]
        have q4 : ∀ f : Nat → Int, (tab d' f).getD i 0 = f i := fun f => tab_getD hlt
        have q2 : (((G (i + 1) % m2) * (H (i + 1) % m2)).tmod m2) = (G (i + 1) * H (i + 1)) % m2 := by rw [tm _ _ p6.1, ← Int.mul_emod]
        have q3 : (((G (i + 1) % m2) + (H (i + 1) % m2)).tmod m2) = (G (i + 1) + H (i + 1)) % m2 := by rw [tm _ _ (by omega), ← Int.add_emod]
        (repeat (first | ((with_reducible refine rgn_cons rfl (fun K hK => ?_)); simp only [go_sem, seval, ↓reduceIte, decide_true, decide_false, q0, q4, Nat.mul_one, intL_get _ i (q1 fun i => (G (i + 1) * H (i + 1)) % m2), intL_get _ i (q1 fun i => G (i + 1) % m2), intL_get _ i (q1 fun i => H (i + 1) % m2), intL_get _ i (q1 fun i => (G (i + 1) + H (i + 1)) % m2), tab_length, Int.toNat_natCast, Int.natCast_nonneg, hI, wid ((G (i + 1) % m2) * (H (i + 1) % m2)) (by omega) (by omega), wid ((G (i + 1) % m2) + (H (i + 1) % m2)) (by omega) (by omega), q2, q3, sizeL_take (tab d' (fun i => (G (i + 1) * H (i + 1)) % m2)) i (Nat.le_of_lt (q1 _)), sizeL_take (tab d' (fun i => G (i + 1) % m2)) i (Nat.le_of_lt (q1 _)), sizeL_take (tab d' (fun i => H (i + 1) % m2)) i (Nat.le_of_lt (q1 _)), sizeL_take (tab d' (fun i => (G (i + 1) + H (i + 1)) % m2)) i (Nat.le_of_lt (q1 _)), show m2 ≠ 0 by omega, bne_self_eq_false, wid ((i : Int) + 1) (by omega) (by omega)]; (refine hK _ _ _ (by simp only [go_sem, Nat.reduceEqDiff, ↓reduceIte]; rfl) ?_); clear hK; clear K) | (with_reducible first | refine rgn_nil (by first | trivial | kernel_rfl) ?_ | refine AWP.seq ?_ | refine tX hC hP (by kernel_rfl) ?_ | refine aX hC hM hP (by kernel_rfl) ?_ | refine AWP.skip ?_ | refine AWP.label ?_ | refine AWP.exit ?_ | refine AWP.block ?_ | refine cT (by simp only [go_sem, Nat.reduceEqDiff, ↓reduceIte]; with_reducible rfl) ?_ | refine cF (by simp only [go_sem, Nat.reduceEqDiff, ↓reduceIte]; with_reducible rfl) ?_) | simp only [qS, Nat.reduceEqDiff, ↓reduceIte]))
        exact ⟨i + 1, hlt, by omega, by simp [Sub, lk]⟩
      · (repeat (first | ((with_reducible refine rgn_cons rfl (fun K hK => ?_)); simp only [go_sem, seval, ↓reduceIte, decide_true, decide_false]; (refine hK _ _ _ (by simp only [go_sem, Nat.reduceEqDiff, ↓reduceIte]; rfl) ?_); clear hK; clear K) | (with_reducible first | refine rgn_nil (by first | trivial | kernel_rfl) ?_ | refine AWP.seq ?_ | refine tX hC hP (by kernel_rfl) ?_ | refine aX hC hM hP (by kernel_rfl) ?_ | refine AWP.skip ?_ | refine AWP.label ?_ | refine AWP.exit ?_ | refine AWP.block ?_ | refine cT (by simp only [go_sem, Nat.reduceEqDiff, ↓reduceIte]; with_reducible rfl) ?_ | refine cF (by simp only [go_sem, Nat.reduceEqDiff, ↓reduceIte]; with_reducible rfl) ?_) | simp only [qS, Nat.reduceEqDiff, ↓reduceIte]))
        (refine AWP.ret ?_; first | refine retOk1 (by simp only [go_sem, seval, ↓reduceIte, decide_true, decide_false]; rfl) ?_ | refine retOk2 (by simp only [go_sem, seval, ↓reduceIte, decide_true, decide_false]; rfl) (by simp only [go_sem, seval, ↓reduceIte, decide_true, decide_false]; rfl) (by simp) ?_ | refine retOk3 (by simp only [go_sem, seval, ↓reduceIte, decide_true, decide_false]; rfl) (by simp only [go_sem, seval, ↓reduceIte, decide_true, decide_false]; rfl) (by simp only [go_sem, seval, ↓reduceIte, decide_true, decide_false]; rfl) (by simp) ?_)
        rfl
  · (repeat (first | ((with_reducible refine rgn_cons rfl (fun K hK => ?_)); simp only [go_sem, seval, ↓reduceIte, decide_true, decide_false, hbig, decide_false, hc, bneT hc]; (first | refine hK _ _ _ (by simp only [go_sem, Nat.reduceEqDiff, ↓reduceIte]; rfl) ?_ | refine ⟨_, hb, hK _ _ _ (by simp only [go_sem, Nat.reduceEqDiff, ↓reduceIte]; rfl) ?_⟩ | refine ⟨_, hD, hK _ _ _ (by simp only [go_sem, Nat.reduceEqDiff, ↓reduceIte]; rfl) ?_⟩ | refine ⟨_, c_impl_MultiplyBig_no m1 m2 l1 l2 (by omega) (by omega) hc, hK _ _ _ (by simp only [go_sem, Nat.reduceEqDiff, ↓reduceIte]; rfl) ?_⟩ | refine ⟨_, c_spec_MultiplyBig_no m1 m2 l1 l2 (by omega) (by omega) hc, hK _ _ _ (by simp only [go_sem, Nat.reduceEqDiff, ↓reduceIte]; rfl) ?_⟩ | refine ⟨_, c_impl_AddBig_no m1 m2 l1 l2 (by omega) (by omega) hc, hK _ _ _ (by simp only [go_sem, Nat.reduceEqDiff, ↓reduceIte]; rfl) ?_⟩ | refine ⟨_, c_spec_AddBig_no m1 m2 l1 l2 (by omega) (by omega) hc, hK _ _ _ (by simp only [go_sem, Nat.reduceEqDiff, ↓reduceIte]; rfl) ?_⟩ | refine ⟨_, c_laws_series5_nil 0, hK _ _ _ (by simp only [go_sem, Nat.reduceEqDiff, ↓reduceIte]; rfl) ?_⟩ | refine ⟨_, c_impl_IsBigVector m1 l1 (by omega), hK _ _ _ (by simp only [go_sem, Nat.reduceEqDiff, ↓reduceIte]; rfl) ?_⟩ | refine ⟨_, c_spec_IsBigVector m1 l1 (by omega), hK _ _ _ (by simp only [go_sem, Nat.reduceEqDiff, ↓reduceIte]; rfl) ?_⟩); clear hK; clear K) | (with_reducible first | refine rgn_nil (by first | trivial | kernel_rfl) ?_ | refine AWP.seq ?_ | refine tX hC hP (by kernel_rfl) ?_ | refine aX hC hM hP (by kernel_rfl) ?_ | refine AWP.skip ?_ | refine AWP.label ?_ | refine AWP.exit ?_ | refine AWP.block ?_ | refine cT (by simp only [go_sem, Nat.reduceEqDiff, ↓reduceIte]; with_reducible rfl) ?_ | refine cF (by simp only [go_sem, Nat.reduceEqDiff, ↓reduceIte]; with_reducible rfl) ?_) | simp only [qS, Nat.reduceEqDiff, ↓reduceIte]))
    (refine AWP.ret ?_; first | refine retOk1 (by simp only [go_sem, seval, ↓reduceIte, decide_true, decide_false]; rfl) ?_ | refine retOk2 (by simp only [go_sem, seval, ↓reduceIte, decide_true, decide_false]; rfl) (by simp only [go_sem, seval, ↓reduceIte, decide_true, decide_false]; rfl) (by simp) ?_ | refine retOk3 (by simp only [go_sem, seval, ↓reduceIte, decide_true, decide_false]; rfl) (by simp only [go_sem, seval, ↓reduceIte, decide_true, decide_false]; rfl) (by simp only [go_sem, seval, ↓reduceIte, decide_true, decide_false]; rfl) (by simp) ?_)
    rfl
end Go.Proofs.Ytccjfbfebgfgoaa
