/-
  Curves: each is handed to a closure that counts.
-/
import Derived.Test.YtfnfdjomkohfjaaNa
namespace Go.Proofs.Ytfnfdjomkohfjaa
open Go.RowKit
set_option linter.unusedSimpArgs false
set_option linter.unusedVariables false
set_option linter.unusedSectionVars false
set_option maxRecDepth 20000
-- Curves: each is handed to a closure that counts.
theorem c_impl_countKilled_1 (M n : Nat) (ll : List (List Int)) (x : List Int) (c : Nat) (h : ptC M ll [x] = 0) (hn : n ≤ 1000000) (hc : c ≤ 2000000000000) : AFn Try.prog (6000000 + 88) [.box 2 (.int .i64 (c : Nat)), .agg [.int .i64 (M : Int), .sl false 2 (intL (0 :: x))], .fptr (.agg [.int .i64 (M : Int), .sl false 25 (rowsF (tab2 (x.length + 1) (pc ll)))]), .fptr (.int .i64 n)] (.tup [.bool true, .box 2 (.int .i64 (c + (if klB M ll x n = true then 1 else 0) : Nat))]) := by
  have hk1 := c_impl_Plane_kills M n ll x h (by omega)
  refine (AFn_k (by decide)).2 (AFk.of' (tr := 5) ttOk Try.func88 Try.ntmps88 (by rw [Try.results88]) (by rfl) (by rfl) (by simp) (by simp) (by decide) (by rfl) (by rfl) (by rfl) (by simp only [go_sem, List.length_cons, List.length_nil, List.cons_append, List.nil_append, Nat.reduceAdd, ↓reduceIte]; rfl) mixed (fun C hP hM hC => ?_))
  cases hk : klB M ll x n with
  | true =>
    rw [hk] at hk1
    (repeat (first | ((with_reducible refine rgn_cons rfl (fun K hK => ?_)); simp only [go_sem, seval, ↓reduceIte, decide_true, decide_false, show IntKind.i64.wrap (((c : Nat) : Int) + 1) = ((c + 1 : Nat) : Int) by rw [wid _ (by omega) (by omega)]; omega]; (first | refine hK _ _ _ (by simp only [go_sem, Nat.reduceEqDiff, ↓reduceIte]; rfl) ?_ | refine ⟨_, hk1, hK _ _ _ (by simp only [go_sem, Nat.reduceEqDiff, ↓reduceIte]; rfl) ?_⟩); clear hK; clear K) | (with_reducible first | refine rgn_nil (by first | trivial | kernel_rfl) ?_ | refine AWP.seq ?_ | refine tX hC hP (by kernel_rfl) ?_ | refine aX hC hM hP (by kernel_rfl) ?_ | refine AWP.skip ?_ | refine AWP.label ?_ | refine AWP.exit ?_ | refine AWP.block ?_ | refine cTa ?_ | refine cFa ?_) | simp only [qS, Nat.reduceEqDiff, ↓reduceIte]))
    refine AWP.ret (endQK_ret ?_)
    exact ⟨⟨_, rfl⟩, rfl⟩
  | false =>
    rw [hk] at hk1
    (repeat (first | ((with_reducible refine rgn_cons rfl (fun K hK => ?_)); simp only [go_sem, seval, ↓reduceIte, decide_true, decide_false]; (first | refine hK _ _ _ (by simp only [go_sem, Nat.reduceEqDiff, ↓reduceIte]; rfl) ?_ | refine ⟨_, hk1, hK _ _ _ (by simp only [go_sem, Nat.reduceEqDiff, ↓reduceIte]; rfl) ?_⟩); clear hK; clear K) | (with_reducible first | refine rgn_nil (by first | trivial | kernel_rfl) ?_ | refine AWP.seq ?_ | refine tX hC hP (by kernel_rfl) ?_ | refine aX hC hM hP (by kernel_rfl) ?_ | refine AWP.skip ?_ | refine AWP.label ?_ | refine AWP.exit ?_ | refine AWP.block ?_ | refine cTa ?_ | refine cFa ?_) | simp only [qS, Nat.reduceEqDiff, ↓reduceIte]))
    refine AWP.ret (endQK_ret ?_)
    exact ⟨⟨_, rfl⟩, rfl⟩
set_option maxHeartbeats 4000000 in
theorem c_impl_curves (M n K : Nat) (ll : List (List Int)) (hn : n ≤ 1000000) (hk9 : K ≤ 1000) (hm1 : 1 < M) (hm2 : M ≤ 10000) (hp : ∀ x : List Int, x.length = K → (∀ z ∈ x, 0 ≤ z ∧ z < (M : Int)) → ptC M ll [x] = 0) : ∀ (d j : Nat) (x : List Int) (c : Nat), x.length = K → j + d = K → (∀ z ∈ x, 0 ≤ z ∧ z < (M : Int)) → c + M ^ d ≤ 1000000000000 →
    AFn Try.prog (7000000 + 87) [.sl true 2 (intL (0 :: x)), .box 2 (.int .i64 (c : Nat)), .int .i64 M, .int .i64 ((j + 1 : Nat) : Int), .fn 88 [.fptr (.agg [.int .i64 (M : Int), .sl false 25 (rowsF (tab2 (K + 1) (pc ll)))]), .fptr (.int .i64 n)]] (.tup [.bool true, .sl true 2 (intL (0 :: (x.take j ++ List.replicate d ((M : Int) - 1)))), .box 2 (.int .i64 (c + cvN M (fun y => klB M ll y n) d (x.take j) : Nat))]) := by
  intro d
  induction d with
  | zero =>
    intro j x c hx hj hb hc
    have hcl := c_impl_countKilled_1 M n ll x c (hp x hx hb) hn (by omega)
    have ht : x.take j = x := List.take_of_length_le (by omega)
    rw [hx] at hcl
    rw [ht, cvN, List.replicate_zero, List.append_nil]
    refine AFn_c.2 (AFc.of' (tr := 6) (d := 3) ttOk md Try.func87 Try.ntmps87 (by rw [Try.results87]) (by rfl) (by rfl) (by decide) (by decide) (by decide) (by rfl) (by rfl) (by rfl) (by kernel_rfl) (by decide) (by decide) (by kernel_rfl) (by kernel_rfl) rfl (intL_scalars _) (intL_scalars _) (by rfl) (by rfl) (by rfl) mixed (fun C hP hM hC => ?_))
    (repeat (first | ((with_reducible refine rgn_cons rfl (fun K hK => ?_)); simp only [go_sem, seval, ↓reduceIte, decide_true, decide_false, List.length_cons, show (((j + 1 : Nat) : Int) == ((x.length + 1 : Nat) : Int)) = true by rw [beq_iff_eq]; omega]; (first | refine hK _ _ _ (by simp only [go_sem, Nat.reduceEqDiff, ↓reduceIte]; rfl) ?_ | refine ⟨_, c_impl_copyOf_int64_pt (0 :: x) (by simp; omega), hK _ _ _ (by simp only [go_sem, Nat.reduceEqDiff, ↓reduceIte]; rfl) ?_⟩ | refine ⟨_, hcl, hK _ _ _ (by simp only [go_sem, Nat.reduceEqDiff, ↓reduceIte]; rfl) ?_⟩); clear hK; clear K) | (with_reducible first | refine rgn_nil (by first | trivial | kernel_rfl) ?_ | refine AWP.seq ?_ | refine tX hC hP (by kernel_rfl) ?_ | refine aX hC hM hP (by kernel_rfl) ?_ | refine AWP.skip ?_ | refine AWP.label ?_ | refine AWP.exit ?_ | refine AWP.block ?_ | refine cTa ?_ | refine cFa ?_) | simp only [qS, Nat.reduceEqDiff, ↓reduceIte]))
    refine AWP.ret (endQC_ret ?_)
    exact ⟨⟨_, rfl⟩, rfl, rfl⟩
  | succ d ih =>
    intro j x c hx hj hb hc
    have hpw : M ^ (d + 1) = M ^ d * M := Nat.pow_succ ..
    rw [cvN]
    refine AFn_c.2 (AFc.of' (tr := 6) (d := 3) ttOk md Try.func87 Try.ntmps87 (by rw [Try.results87]) (by rfl) (by rfl) (by decide) (by decide) (by decide) (by rfl) (by rfl) (by rfl) (by kernel_rfl) (by decide) (by decide) (by kernel_rfl) (by kernel_rfl) (by simp [intL_length]; omega) (intL_scalars _) (intL_scalars _) (by rfl) (by rfl) (by rfl) mixed (fun C hP hM hC => ?_))
    (repeat (first | ((with_reducible refine rgn_cons rfl (fun K hK => ?_)); simp only [go_sem, seval, ↓reduceIte, decide_true, decide_false, List.length_cons, show (((j + 1 : Nat) : Int) == ((x.length + 1 : Nat) : Int)) = false by rw [beq_eq_false_iff_ne]; omega]; (refine hK _ _ _ (by simp only [go_sem, Nat.reduceEqDiff, ↓reduceIte]; rfl) ?_); clear hK; clear K) | (with_reducible first | refine rgn_nil (by first | trivial | kernel_rfl) ?_ | refine AWP.seq ?_ | refine tX hC hP (by kernel_rfl) ?_ | refine aX hC hM hP (by kernel_rfl) ?_ | refine AWP.skip ?_ | refine AWP.label ?_ | refine AWP.exit ?_ | refine AWP.block ?_ | refine cTa ?_ | refine cFa ?_) | simp only [qS, Nat.reduceEqDiff, ↓reduceIte]))
    refine AWP.loop (fun k : Nat => [(23, ⟨0, .val (.int .i64 k)⟩), (22, ⟨0, .val (.int .i64 M)⟩), (1, ⟨0, .val (.int .i64 (j + 1 : Nat))⟩), (2, ⟨0, .val (.fn 88 [.fptr (.agg [.int .i64 (M : Int), .sl false 25 (rowsF (tab2 (K + 1) (pc ll)))]), .fptr (.int .i64 n), .addr 3000001 0 [] 0 [0]])⟩), (3, ⟨0, .own (.box 43 (.agg [.int .i64 M, .sl true 2 (intL (0 :: cvY M j d x k))]))⟩), (3000001, ⟨0, .own (.box 2 (.int .i64 (c + smC k (fun k => cvN M (fun y => klB M ll y n) d (x.take j ++ [(k : Int)])) : Nat)))⟩)]) (fun k => k ≤ M) (fun k => M - k) 0 (Nat.zero_le _) (fun k => rfl) ?_ (fun k hk => ?_)
    · simp [Sub, lk, cvY, smC]
    · have hy := cvY_take (M := M) (x := x) (j := j) (d := d) (by omega) k
      have hyb := cvY_b (j := j) (d := d) hb hk (by omega)
      have hsl : smC k (fun k => cvN M (fun y => klB M ll y n) d (x.take j ++ [(k : Int)])) ≤ k * M ^ d := smC_le fun k _ => cvN_le M _ d _
      have hsl2 : k * M ^ d ≤ M * M ^ d := Nat.mul_le_mul_right _ hk
      by_cases hlt : k < M
      · have hsl3 : (k + 1) * M ^ d ≤ M * M ^ d := Nat.mul_le_mul_right _ hlt
        rw [Nat.succ_mul] at hsl3
        have hn2 := cvY_next (M := M) (x := x) (j := j) (d := d) (by omega) k
        have hih := ih (j + 1) ((cvY M j d x k).set j (k : Int)) (c + smC k (fun k => cvN M (fun y => klB M ll y n) d (x.take j ++ [(k : Int)]))) (by rw [List.length_set]; omega) (by omega) (fun z hz => by
          rcases List.mem_or_eq_of_mem_set hz with h | h
          · exact hyb z h
          · omega) (by rw [Nat.mul_comm] at hpw; omega)
        rw [hn2.2, hn2.1] at hih
        have hset : (0 :: cvY M j d x k).set (j + 1) (k : Int) = 0 :: (cvY M j d x k).set j (k : Int) := rfl
        have hjl : j + 1 < (0 :: cvY M j d x k).length := by simp; omega
        (repeat (first | ((with_reducible refine rgn_cons rfl (fun K hK => ?_)); simp only [go_sem, seval, ↓reduceIte, decide_true, decide_false, show (k : Int) < (M : Int) by omega, decide_true, List.length_cons, hy.1, Int.toNat_natCast, Int.natCast_nonneg, Nat.mul_one, show ((j + 1 : Nat) : Int) < ((j + d + 1 + 1 : Nat) : Int) by omega, intL_get _ (j + 1) hjl, sizeL_take _ (j + 1) (Nat.le_of_lt hjl), intL_modify, hset, show IntKind.i64.wrap (((j + 1 : Nat) : Int) + 1) = ((j + 1 + 1 : Nat) : Int) by rw [wid _ (by omega) (by omega)]; omega, wid ((k : Int) + 1) (by omega) (by omega)]; (first | refine hK _ _ _ (by simp only [go_sem, Nat.reduceEqDiff, ↓reduceIte]; rfl) ?_ | refine ⟨_, hih, hK _ _ _ (by simp only [go_sem, Nat.reduceEqDiff, ↓reduceIte]; rfl) ?_⟩); clear hK; clear K) | (with_reducible first | refine rgn_nil (by first | trivial | kernel_rfl) ?_ | refine AWP.seq ?_ | refine tX hC hP (by kernel_rfl) ?_ | refine aX hC hM hP (by kernel_rfl) ?_ | refine AWP.skip ?_ | refine AWP.label ?_ | refine AWP.exit ?_ | refine AWP.block ?_ | refine cTa ?_ | refine cFa ?_) | simp only [qS, Nat.reduceEqDiff, ↓reduceIte]))
        exact ⟨k + 1, by omega, by omega, by simp [Sub, lk, smC, Nat.add_assoc]⟩
      · have e : k = M := by omega
        subst e
        (repeat (first | ((with_reducible refine rgn_cons rfl (fun K hK => ?_)); simp only [go_sem, seval, ↓reduceIte, decide_true, decide_false, show ¬ (k : Int) < (k : Int) by omega, decide_false]; (refine hK _ _ _ (by simp only [go_sem, Nat.reduceEqDiff, ↓reduceIte]; rfl) ?_); clear hK; clear K) | (with_reducible first | refine rgn_nil (by first | trivial | kernel_rfl) ?_ | refine AWP.seq ?_ | refine tX hC hP (by kernel_rfl) ?_ | refine aX hC hM hP (by kernel_rfl) ?_ | refine AWP.skip ?_ | refine AWP.label ?_ | refine AWP.exit ?_ | refine AWP.block ?_ | refine cTa ?_ | refine cFa ?_) | simp only [qS, Nat.reduceEqDiff, ↓reduceIte]))
        refine AWP.ret (endQC_ret ?_)
        obtain ⟨k0, rfl⟩ : ∃ k0, k = k0 + 1 := ⟨k - 1, by omega⟩
        refine ⟨⟨_, rfl⟩, ?_, rfl⟩
        simp only [cvY, List.replicate_succ]
        rw [show ((k0 + 1 : Nat) : Int) - 1 = (k0 : Int) by omega]
        rfl
end Go.Proofs.Ytfnfdjomkohfjaa
