/-
  Draws of Witt vectors with a degree.
-/
import Derived.Test.YtdnaecmcbkfpaaaGreatDv
namespace Go.Proofs.YtdnaecmcbkfpaaaGreat
open Go.RowKit
set_option linter.unusedSimpArgs false
set_option linter.unusedVariables false
set_option linter.unusedSectionVars false
set_option maxRecDepth 20000
-- Draws of Witt vectors with a degree.
def dxN (l : List Int) (s1 : Int × Int) : Nat := (1 + nextX l (nextS l (qrS l s1) 4) 4).toNat
def dxS (l : List Int) (s1 : Int × Int) : Int × Int := nextS l (nextS l (qrS l s1) 4) 4
theorem dxN_b {l : List Int} (hB : Byt l) (s1 : Int × Int) : ((dxN l s1 : Nat) : Int) = 1 + nextX l (nextS l (qrS l s1) 4) 4 ∧ 1 ≤ dxN l s1 ∧ dxN l s1 ≤ 4 := by
  have h := nextX_bound hB (nextS l (qrS l s1) 4) 4
  have h1 := h.2.1 (by decide)
  unfold dxN
  omega
set_option maxHeartbeats 2000000 in
theorem c_spec_DrawExponentialOfWitt_f1 (a : Option Addr) (c : Nat) (l : List Int) (hB : Byt l) (p m : Int) (x : List Int) (s1 : Int × Int) (hS1 : Sok l s1) (hx : x.length ≤ 8) (hC1 : AFn Tryz.prog (5000000 + 54) [.str (.src a c l), SRA a c l (from0 l)] (.tup [.agg [.int .i64 p, .int .i64 m, .sl true 2 (intL x)], SRA a c l s1])) (h : ¬ 0 < nextX l (qrS l s1) 4) : AFn Tryz.prog 17 [.str (.src a c l)] (.tup [.agg [.int .i64 p, .int .i64 m, .sl true 2 (intL x)], .int .i64 (nextX l (nextS l (qrS l s1) 4) 12)]) := by
  refine AFn.of' ttOk (by decide) Tryz.func17 Tryz.ntmps17 (by rw [Tryz.results17]) (by rfl) (by rfl) (by simp) (by decide) (by simp only [go_sem, Nat.reduceAdd, ↓reduceIte]; rfl) mixed (fun C hP hM hC => ?_)
  have q1 := qrS_ok hB hS1
  have q2 := nextS_ok q1 4
  refine AWP.ghost (t := 0) rfl rfl ?_
  (repeat (first | ((with_reducible refine rgn_cons rfl (fun K hK => ?_)); simp only [go_sem, seval, ↓reduceIte, decide_true, decide_false, h, decide_false]; (first | refine hK _ _ _ (by simp only [go_sem, Nat.reduceEqDiff, ↓reduceIte]; rfl) ?_ | refine ⟨_, c_spec_l01From a c l hB, hK _ _ _ (by simp only [go_sem, Nat.reduceEqDiff, ↓reduceIte]; rfl) ?_⟩ | refine ⟨_, hC1, hK _ _ _ (by simp only [go_sem, Nat.reduceEqDiff, ↓reduceIte]; rfl) ?_⟩ | refine ⟨_, c_spec_l15Prime a c l hB _ hS1, hK _ _ _ (by simp only [go_sem, Nat.reduceEqDiff, ↓reduceIte]; rfl) ?_⟩ | refine ⟨_, c_spec_l01Next a c l hB _ q1 4, hK _ _ _ (by simp only [go_sem, Nat.reduceEqDiff, ↓reduceIte]; rfl) ?_⟩ | refine ⟨_, c_spec_l01Next a c l hB _ q2 12, hK _ _ _ (by simp only [go_sem, Nat.reduceEqDiff, ↓reduceIte]; rfl) ?_⟩); clear hK; clear K) | (with_reducible first | refine rgn_nil (by first | trivial | kernel_rfl) ?_ | refine AWP.seq ?_ | refine tX hC hP (by kernel_rfl) ?_ | refine aX hC hM hP (by kernel_rfl) ?_ | refine AWP.skip ?_ | refine AWP.label ?_ | refine AWP.exit ?_ | refine AWP.block ?_ | refine cTa ?_ | refine cFa ?_) | simp only [qS, Nat.reduceEqDiff, ↓reduceIte]))
  (refine AWP.ret ?_; refine retOk2 (by simp only [go_sem, seval, ↓reduceIte, decide_true, decide_false]; rfl) (by simp only [go_sem, seval, ↓reduceIte, decide_true, decide_false]; rfl) (by simp) ?_)
  rfl
set_option maxHeartbeats 2000000 in
theorem c_spec_DrawExponentialOfWitt_f2 (a : Option Addr) (c : Nat) (l : List Int) (hB : Byt l) (p m : Int) (x : List Int) (s1 : Int × Int) (hS1 : Sok l s1) (hx : x.length ≤ 8) (hC1 : AFn Tryz.prog (5000000 + 54) [.str (.src a c l), SRA a c l (from0 l)] (.tup [.agg [.int .i64 p, .int .i64 m, .sl true 2 (intL x)], SRA a c l s1])) (h : 0 < nextX l (qrS l s1) 4) (hk : (typB (qrA l s1) && (decide (2 ≤ qrB l s1) && decide (qrB l s1 ≤ 10000)) && (decide ((1 : Int) ≤ 1) && decide ((1 : Int) ≤ 4))) = false) : AFn Tryz.prog 17 [.str (.src a c l)] (.tup [.agg [.int .i64 p, .int .i64 m, .sl true 2 (intL x)], .int .i64 (nextX l (nextS l (qrS l s1) 4) 12)]) := by
  refine AFn.of' ttOk (by decide) Tryz.func17 Tryz.ntmps17 (by rw [Tryz.results17]) (by rfl) (by rfl) (by simp) (by decide) (by simp only [go_sem, Nat.reduceAdd, ↓reduceIte]; rfl) mixed (fun C hP hM hC => ?_)
  have q1 := qrS_ok hB hS1
  have q2 := nextS_ok q1 4
  refine AWP.ghost (t := 0) rfl rfl ?_
  have hK2 := c_spec_l13Kind (qrA l s1) (qrB l s1) 1
  rw [hk] at hK2
  (repeat (first | ((with_reducible refine rgn_cons rfl (fun K hK => ?_)); simp only [go_sem, seval, ↓reduceIte, decide_true, decide_false, h, decide_true]; (first | refine hK _ _ _ (by simp only [go_sem, Nat.reduceEqDiff, ↓reduceIte]; rfl) ?_ | refine ⟨_, c_spec_l01From a c l hB, hK _ _ _ (by simp only [go_sem, Nat.reduceEqDiff, ↓reduceIte]; rfl) ?_⟩ | refine ⟨_, hC1, hK _ _ _ (by simp only [go_sem, Nat.reduceEqDiff, ↓reduceIte]; rfl) ?_⟩ | refine ⟨_, c_spec_l15Prime a c l hB _ hS1, hK _ _ _ (by simp only [go_sem, Nat.reduceEqDiff, ↓reduceIte]; rfl) ?_⟩ | refine ⟨_, c_spec_l01Next a c l hB _ q1 4, hK _ _ _ (by simp only [go_sem, Nat.reduceEqDiff, ↓reduceIte]; rfl) ?_⟩ | refine ⟨_, hK2, hK _ _ _ (by simp only [go_sem, Nat.reduceEqDiff, ↓reduceIte]; rfl) ?_⟩ | refine ⟨_, c_spec_l01Next a c l hB _ q2 12, hK _ _ _ (by simp only [go_sem, Nat.reduceEqDiff, ↓reduceIte]; rfl) ?_⟩); clear hK; clear K) | (with_reducible first | refine rgn_nil (by first | trivial | kernel_rfl) ?_ | refine AWP.seq ?_ | refine tX hC hP (by kernel_rfl) ?_ | refine aX hC hM hP (by kernel_rfl) ?_ | refine AWP.skip ?_ | refine AWP.label ?_ | refine AWP.exit ?_ | refine AWP.block ?_ | refine cTa ?_ | refine cFa ?_) | simp only [qS, Nat.reduceEqDiff, ↓reduceIte]))
  (refine AWP.ret ?_; refine retOk2 (by simp only [go_sem, seval, ↓reduceIte, decide_true, decide_false]; rfl) (by simp only [go_sem, seval, ↓reduceIte, decide_true, decide_false]; rfl) (by simp) ?_)
  rfl
set_option maxHeartbeats 4000000 in
theorem c_spec_DrawExponentialOfWitt_f3 (a : Option Addr) (c : Nat) (l : List Int) (hB : Byt l) (p m : Int) (x : List Int) (s1 : Int × Int) (hS1 : Sok l s1) (hx : x.length ≤ 8) (hC1 : AFn Tryz.prog (5000000 + 54) [.str (.src a c l), SRA a c l (from0 l)] (.tup [.agg [.int .i64 p, .int .i64 m, .sl true 2 (intL x)], SRA a c l s1])) (h : 0 < nextX l (qrS l s1) 4) (hk : (typB (qrA l s1) && (decide (2 ≤ qrB l s1) && decide (qrB l s1 ≤ 10000)) && (decide ((1 : Int) ≤ 1) && decide ((1 : Int) ≤ 4))) = true) : AFn Tryz.prog 17 [.str (.src a c l)] (.tup [.agg [.int .i64 (qrA l s1), .int .i64 (qrB l s1), .sl true 2 (intL (nxL l (qrB l s1) (dxS l s1) (dxN l s1)))], .int .i64 (nextX l (nxS l (qrB l s1) (dxS l s1) (dxN l s1)) 12)]) := by
  refine AFn.of' ttOk (by decide) Tryz.func17 Tryz.ntmps17 (by rw [Tryz.results17]) (by rfl) (by rfl) (by simp) (by decide) (by simp only [go_sem, Nat.reduceAdd, ↓reduceIte]; rfl) mixed (fun C hP hM hC => ?_)
  have q1 := qrS_ok hB hS1
  have q2 := nextS_ok q1 4
  have q4 : Sok l (dxS l s1) := nextS_ok q2 4
  have hN := dxN_b hB s1
  have hsN : nextS l (nextS l (qrS l s1) 4) 4 = dxS l s1 := rfl
  refine AWP.ghost (t := 0) rfl rfl ?_
  have hK2 := c_spec_l13Kind (qrA l s1) (qrB l s1) 1
  rw [hk] at hK2
  (repeat (first | ((with_reducible refine rgn_cons rfl (fun K hK => ?_)); simp only [go_sem, seval, ↓reduceIte, decide_true, decide_false, h, decide_true, ← hN.1, wid ((dxN l s1 : Nat) : Int) (by omega) (by omega)]; (first | refine hK _ _ _ (by simp only [go_sem, Nat.reduceEqDiff, ↓reduceIte]; rfl) ?_ | refine ⟨_, c_spec_l01From a c l hB, hK _ _ _ (by simp only [go_sem, Nat.reduceEqDiff, ↓reduceIte]; rfl) ?_⟩ | refine ⟨_, hC1, hK _ _ _ (by simp only [go_sem, Nat.reduceEqDiff, ↓reduceIte]; rfl) ?_⟩ | refine ⟨_, c_spec_l15Prime a c l hB _ hS1, hK _ _ _ (by simp only [go_sem, Nat.reduceEqDiff, ↓reduceIte]; rfl) ?_⟩ | refine ⟨_, c_spec_l01Next a c l hB _ q1 4, hK _ _ _ (by simp only [go_sem, Nat.reduceEqDiff, ↓reduceIte]; rfl) ?_⟩ | refine ⟨_, hK2, hK _ _ _ (by simp only [go_sem, Nat.reduceEqDiff, ↓reduceIte]; rfl) ?_⟩ | refine ⟨_, c_spec_l01Next a c l hB _ q2 4, hK _ _ _ (by simp only [go_sem, Nat.reduceEqDiff, ↓reduceIte]; rfl) ?_⟩); clear hK; clear K) | (with_reducible first | refine rgn_nil (by first | trivial | kernel_rfl) ?_ | refine AWP.seq ?_ | refine tX hC hP (by kernel_rfl) ?_ | refine aX hC hM hP (by kernel_rfl) ?_ | refine AWP.skip ?_ | refine AWP.label ?_ | refine AWP.exit ?_ | refine AWP.block ?_ | refine cTa ?_ | refine cFa ?_) | simp only [qS, Nat.reduceEqDiff, ↓reduceIte]))
  refine AWP.loop (fun w : Nat × Nat => match w with
    | (0, v) => [(8, ⟨0, .val (.int .i64 (dxN l s1 : Nat))⟩), (7, ⟨0, .val (.int .i64 (qrB l s1))⟩), (5, ⟨3, .own (.box 42 (.agg [.int .i64 (qrA l s1), .int .i64 (qrB l s1), .nil]))⟩), (2, ⟨1, .own (.box 42 (.agg [.int .i64 0, .int .i64 0, .nil]))⟩), (3000000, ⟨0, .val (.str (.src a c l))⟩), (4, ⟨0, .val (.addr 10 1 [] 0 [0])⟩), (10, ⟨1, .own (.box 93 (.agg [.str (.raw a l.length c), .int .i64 (dxS l s1).1, .int .u64 (dxS l s1).2]))⟩)]
    | (i + 1, v) => [(8, ⟨0, .val (.int .i64 (dxN l s1 - (i + 1) : Nat))⟩), (7, ⟨0, .val (.int .i64 (qrB l s1))⟩), (5, ⟨v, .own (.box 42 (.agg [.int .i64 (qrA l s1), .int .i64 (qrB l s1), .sl true 2 (intL (nxL l (qrB l s1) (dxS l s1) (i + 1)))]))⟩), (2, ⟨1, .own (.box 42 (.agg [.int .i64 0, .int .i64 0, .nil]))⟩), (3000000, ⟨0, .val (.str (.src a c l))⟩), (4, ⟨0, .val (.addr 10 1 [] 0 [0])⟩), (10, ⟨1, .own (.box 93 (.agg [.str (.raw a l.length c), .int .i64 (nxS l (qrB l s1) (dxS l s1) (i + 1)).1, .int .u64 (nxS l (qrB l s1) (dxS l s1) (i + 1)).2]))⟩)]) (fun w => w.1 ≤ dxN l s1) (fun w => dxN l s1 - w.1) (0, 1) (Nat.zero_le _) (fun w => by obtain ⟨k, v⟩ := w; cases k <;> rfl) ?_ (fun w hw => ?_)
  · simp [Sub, lk, hsN]
  · obtain ⟨i, v⟩ := w
    simp only at hw
    cases i with
    | zero =>
      simp only
      (repeat (first | ((with_reducible refine rgn_cons rfl (fun K hK => ?_)); simp only [go_sem, seval, ↓reduceIte, decide_true, decide_false, show (0 : Int) < ((dxN l s1 : Nat) : Int) by omega, decide_true, show [T.int .i64 (nextX l (dxS l s1) (qrB l s1))] = intL (nxL l (qrB l s1) (dxS l s1) 1) from rfl, nxL_length, List.length_nil, Nat.zero_add, show 1 ≤ 1099511627776 by omega, show 1 * 8 ≤ 140737488355328 by omega, show IntKind.i64.wrap (((dxN l s1 : Nat) : Int) - 1) = ((dxN l s1 - (0 + 1) : Nat) : Int) by rw [wid _ (by omega) (by omega)]; omega]; (first | refine hK _ _ _ (by simp only [go_sem, Nat.reduceEqDiff, ↓reduceIte]; rfl) ?_ | refine ⟨_, c_spec_l01Next a c l hB _ q4 (qrB l s1), hK _ _ _ (by simp only [go_sem, Nat.reduceEqDiff, ↓reduceIte]; rfl) ?_⟩); clear hK; clear K) | (with_reducible first | refine rgn_nil (by first | trivial | kernel_rfl) ?_ | refine AWP.seq ?_ | refine tX hC hP (by kernel_rfl) ?_ | refine aX hC hM hP (by kernel_rfl) ?_ | refine AWP.skip ?_ | refine AWP.label ?_ | refine AWP.exit ?_ | refine AWP.block ?_ | refine cTa ?_ | refine cFa ?_) | simp only [qS, Nat.reduceEqDiff, ↓reduceIte]))
      exact ⟨(0 + 1, 4), by simp only; omega, by simp only; omega, by simp [Sub, lk, nxS]⟩
    | succ i =>
      simp only
      by_cases hi : i + 1 < dxN l s1
      · have hSi := nxS_ok (M := qrB l s1) q4 (i + 1)
        have hll := nxL_length l (qrB l s1) (dxS l s1) (i + 1)
        have hsn : nxL l (qrB l s1) (dxS l s1) (i + 1) ++ [nextX l (nxS l (qrB l s1) (dxS l s1) (i + 1)) (qrB l s1)] = nxL l (qrB l s1) (dxS l s1) (i + 1 + 1) := rfl
        (repeat (first | ((with_reducible refine rgn_cons rfl (fun K hK => ?_)); simp only [go_sem, seval, ↓reduceIte, decide_true, decide_false, show (0 : Int) < ((dxN l s1 - (i + 1) : Nat) : Int) by omega, decide_true, intL_snoc, hll, hsn, show i + 1 + 1 ≤ 1099511627776 by omega, show (i + 1 + 1) * 8 ≤ 140737488355328 by omega, show IntKind.i64.wrap (((dxN l s1 - (i + 1) : Nat) : Int) - 1) = ((dxN l s1 - (i + 1 + 1) : Nat) : Int) by rw [wid _ (by omega) (by omega)]; omega]; (first | refine hK _ _ _ (by simp only [go_sem, Nat.reduceEqDiff, ↓reduceIte]; rfl) ?_ | refine ⟨_, c_spec_l01Next a c l hB _ hSi (qrB l s1), hK _ _ _ (by simp only [go_sem, Nat.reduceEqDiff, ↓reduceIte]; rfl) ?_⟩); clear hK; clear K) | (with_reducible first | refine rgn_nil (by first | trivial | kernel_rfl) ?_ | refine AWP.seq ?_ | refine tX hC hP (by kernel_rfl) ?_ | refine aX hC hM hP (by kernel_rfl) ?_ | refine AWP.skip ?_ | refine AWP.label ?_ | refine AWP.exit ?_ | refine AWP.block ?_ | refine cTa ?_ | refine cFa ?_) | simp only [qS, Nat.reduceEqDiff, ↓reduceIte]))
        exact ⟨(i + 1 + 1, v + 1), by simp only; omega, by simp only; omega, by simp [Sub, lk, nxS]⟩
      · have e : i + 1 = dxN l s1 := by omega
        have hSi := nxS_ok (M := qrB l s1) q4 (dxN l s1)
        rw [e]
        (repeat (first | ((with_reducible refine rgn_cons rfl (fun K hK => ?_)); simp only [go_sem, seval, ↓reduceIte, decide_true, decide_false, show ¬ (0 : Int) < ((dxN l s1 - dxN l s1 : Nat) : Int) by omega, decide_false]; (first | refine hK _ _ _ (by simp only [go_sem, Nat.reduceEqDiff, ↓reduceIte]; rfl) ?_ | refine ⟨_, c_spec_l01Next a c l hB _ hSi 12, hK _ _ _ (by simp only [go_sem, Nat.reduceEqDiff, ↓reduceIte]; rfl) ?_⟩); clear hK; clear K) | (with_reducible first | refine rgn_nil (by first | trivial | kernel_rfl) ?_ | refine AWP.seq ?_ | refine tX hC hP (by kernel_rfl) ?_ | refine aX hC hM hP (by kernel_rfl) ?_ | refine AWP.skip ?_ | refine AWP.label ?_ | refine AWP.exit ?_ | refine AWP.block ?_ | refine cTa ?_ | refine cFa ?_) | simp only [qS, Nat.reduceEqDiff, ↓reduceIte]))
        (refine AWP.ret ?_; refine retOk2 (by simp only [go_sem, seval, ↓reduceIte, decide_true, decide_false]; rfl) (by simp only [go_sem, seval, ↓reduceIte, decide_true, decide_false]; rfl) (by simp) ?_)
        rfl
set_option maxHeartbeats 2000000 in
theorem c_spec_DrawExponentialOfWitt_n1 (a : Option Addr) (c : Nat) (l : List Int) (hB : Byt l) (p m : Int) (x : List Int) (s1 : Int × Int) (hS1 : Sok l s1) (hx : x.length ≤ 8) (hC1 : AFn Tryz.prog (5000000 + 54) [.str (.src a c l), SRA a c l (from0 l)] (.tup [(.agg [.int .i64 p, .int .i64 m, .nil]), SRA a c l s1])) (h : ¬ 0 < nextX l (qrS l s1) 4) : AFn Tryz.prog 17 [.str (.src a c l)] (.tup [(.agg [.int .i64 p, .int .i64 m, .nil]), .int .i64 (nextX l (nextS l (qrS l s1) 4) 12)]) := by
  refine AFn.of' ttOk (by decide) Tryz.func17 Tryz.ntmps17 (by rw [Tryz.results17]) (by rfl) (by rfl) (by simp) (by decide) (by simp only [go_sem, Nat.reduceAdd, ↓reduceIte]; rfl) mixed (fun C hP hM hC => ?_)
  have q1 := qrS_ok hB hS1
  have q2 := nextS_ok q1 4
  refine AWP.ghost (t := 0) rfl rfl ?_
  (repeat (first | ((with_reducible refine rgn_cons rfl (fun K hK => ?_)); simp only [go_sem, seval, ↓reduceIte, decide_true, decide_false, h, decide_false]; (first | refine hK _ _ _ (by simp only [go_sem, Nat.reduceEqDiff, ↓reduceIte]; rfl) ?_ | refine ⟨_, c_spec_l01From a c l hB, hK _ _ _ (by simp only [go_sem, Nat.reduceEqDiff, ↓reduceIte]; rfl) ?_⟩ | refine ⟨_, hC1, hK _ _ _ (by simp only [go_sem, Nat.reduceEqDiff, ↓reduceIte]; rfl) ?_⟩ | refine ⟨_, c_spec_l15Prime a c l hB _ hS1, hK _ _ _ (by simp only [go_sem, Nat.reduceEqDiff, ↓reduceIte]; rfl) ?_⟩ | refine ⟨_, c_spec_l01Next a c l hB _ q1 4, hK _ _ _ (by simp only [go_sem, Nat.reduceEqDiff, ↓reduceIte]; rfl) ?_⟩ | refine ⟨_, c_spec_l01Next a c l hB _ q2 12, hK _ _ _ (by simp only [go_sem, Nat.reduceEqDiff, ↓reduceIte]; rfl) ?_⟩); clear hK; clear K) | (with_reducible first | refine rgn_nil (by first | trivial | kernel_rfl) ?_ | refine AWP.seq ?_ | refine tX hC hP (by kernel_rfl) ?_ | refine aX hC hM hP (by kernel_rfl) ?_ | refine AWP.skip ?_ | refine AWP.label ?_ | refine AWP.exit ?_ | refine AWP.block ?_ | refine cTa ?_ | refine cFa ?_) | simp only [qS, Nat.reduceEqDiff, ↓reduceIte]))
  (refine AWP.ret ?_; refine retOk2 (by simp only [go_sem, seval, ↓reduceIte, decide_true, decide_false]; rfl) (by simp only [go_sem, seval, ↓reduceIte, decide_true, decide_false]; rfl) (by simp) ?_)
  rfl
set_option maxHeartbeats 2000000 in
theorem c_spec_DrawExponentialOfWitt_n2 (a : Option Addr) (c : Nat) (l : List Int) (hB : Byt l) (p m : Int) (x : List Int) (s1 : Int × Int) (hS1 : Sok l s1) (hx : x.length ≤ 8) (hC1 : AFn Tryz.prog (5000000 + 54) [.str (.src a c l), SRA a c l (from0 l)] (.tup [(.agg [.int .i64 p, .int .i64 m, .nil]), SRA a c l s1])) (h : 0 < nextX l (qrS l s1) 4) (hk : (typB (qrA l s1) && (decide (2 ≤ qrB l s1) && decide (qrB l s1 ≤ 10000)) && (decide ((1 : Int) ≤ 1) && decide ((1 : Int) ≤ 4))) = false) : AFn Tryz.prog 17 [.str (.src a c l)] (.tup [(.agg [.int .i64 p, .int .i64 m, .nil]), .int .i64 (nextX l (nextS l (qrS l s1) 4) 12)]) := by
  refine AFn.of' ttOk (by decide) Tryz.func17 Tryz.ntmps17 (by rw [Tryz.results17]) (by rfl) (by rfl) (by simp) (by decide) (by simp only [go_sem, Nat.reduceAdd, ↓reduceIte]; rfl) mixed (fun C hP hM hC => ?_)
  have q1 := qrS_ok hB hS1
  have q2 := nextS_ok q1 4
  refine AWP.ghost (t := 0) rfl rfl ?_
  have hK2 := c_spec_l13Kind (qrA l s1) (qrB l s1) 1
  rw [hk] at hK2
  (repeat (first | ((with_reducible refine rgn_cons rfl (fun K hK => ?_)); simp only [go_sem, seval, ↓reduceIte, decide_true, decide_false, h, decide_true]; (first | refine hK _ _ _ (by simp only [go_sem, Nat.reduceEqDiff, ↓reduceIte]; rfl) ?_ | refine ⟨_, c_spec_l01From a c l hB, hK _ _ _ (by simp only [go_sem, Nat.reduceEqDiff, ↓reduceIte]; rfl) ?_⟩ | refine ⟨_, hC1, hK _ _ _ (by simp only [go_sem, Nat.reduceEqDiff, ↓reduceIte]; rfl) ?_⟩ | refine ⟨_, c_spec_l15Prime a c l hB _ hS1, hK _ _ _ (by simp only [go_sem, Nat.reduceEqDiff, ↓reduceIte]; rfl) ?_⟩ | refine ⟨_, c_spec_l01Next a c l hB _ q1 4, hK _ _ _ (by simp only [go_sem, Nat.reduceEqDiff, ↓reduceIte]; rfl) ?_⟩ | refine ⟨_, hK2, hK _ _ _ (by simp only [go_sem, Nat.reduceEqDiff, ↓reduceIte]; rfl) ?_⟩ | refine ⟨_, c_spec_l01Next a c l hB _ q2 12, hK _ _ _ (by simp only [go_sem, Nat.reduceEqDiff, ↓reduceIte]; rfl) ?_⟩); clear hK; clear K) | (with_reducible first | refine rgn_nil (by first | trivial | kernel_rfl) ?_ | refine AWP.seq ?_ | refine tX hC hP (by kernel_rfl) ?_ | refine aX hC hM hP (by kernel_rfl) ?_ | refine AWP.skip ?_ | refine AWP.label ?_ | refine AWP.exit ?_ | refine AWP.block ?_ | refine cTa ?_ | refine cFa ?_) | simp only [qS, Nat.reduceEqDiff, ↓reduceIte]))
  (refine AWP.ret ?_; refine retOk2 (by simp only [go_sem, seval, ↓reduceIte, decide_true, decide_false]; rfl) (by simp only [go_sem, seval, ↓reduceIte, decide_true, decide_false]; rfl) (by simp) ?_)
  rfl
set_option maxHeartbeats 4000000 in
theorem c_spec_DrawExponentialOfWitt_n3 (a : Option Addr) (c : Nat) (l : List Int) (hB : Byt l) (p m : Int) (x : List Int) (s1 : Int × Int) (hS1 : Sok l s1) (hx : x.length ≤ 8) (hC1 : AFn Tryz.prog (5000000 + 54) [.str (.src a c l), SRA a c l (from0 l)] (.tup [(.agg [.int .i64 p, .int .i64 m, .nil]), SRA a c l s1])) (h : 0 < nextX l (qrS l s1) 4) (hk : (typB (qrA l s1) && (decide (2 ≤ qrB l s1) && decide (qrB l s1 ≤ 10000)) && (decide ((1 : Int) ≤ 1) && decide ((1 : Int) ≤ 4))) = true) : AFn Tryz.prog 17 [.str (.src a c l)] (.tup [.agg [.int .i64 (qrA l s1), .int .i64 (qrB l s1), .sl true 2 (intL (nxL l (qrB l s1) (dxS l s1) (dxN l s1)))], .int .i64 (nextX l (nxS l (qrB l s1) (dxS l s1) (dxN l s1)) 12)]) := by
  refine AFn.of' ttOk (by decide) Tryz.func17 Tryz.ntmps17 (by rw [Tryz.results17]) (by rfl) (by rfl) (by simp) (by decide) (by simp only [go_sem, Nat.reduceAdd, ↓reduceIte]; rfl) mixed (fun C hP hM hC => ?_)
  have q1 := qrS_ok hB hS1
  have q2 := nextS_ok q1 4
  have q4 : Sok l (dxS l s1) := nextS_ok q2 4
  have hN := dxN_b hB s1
  have hsN : nextS l (nextS l (qrS l s1) 4) 4 = dxS l s1 := rfl
  refine AWP.ghost (t := 0) rfl rfl ?_
  have hK2 := c_spec_l13Kind (qrA l s1) (qrB l s1) 1
  rw [hk] at hK2
  (repeat (first | ((with_reducible refine rgn_cons rfl (fun K hK => ?_)); simp only [go_sem, seval, ↓reduceIte, decide_true, decide_false, h, decide_true, ← hN.1, wid ((dxN l s1 : Nat) : Int) (by omega) (by omega)]; (first | refine hK _ _ _ (by simp only [go_sem, Nat.reduceEqDiff, ↓reduceIte]; rfl) ?_ | refine ⟨_, c_spec_l01From a c l hB, hK _ _ _ (by simp only [go_sem, Nat.reduceEqDiff, ↓reduceIte]; rfl) ?_⟩ | refine ⟨_, hC1, hK _ _ _ (by simp only [go_sem, Nat.reduceEqDiff, ↓reduceIte]; rfl) ?_⟩ | refine ⟨_, c_spec_l15Prime a c l hB _ hS1, hK _ _ _ (by simp only [go_sem, Nat.reduceEqDiff, ↓reduceIte]; rfl) ?_⟩ | refine ⟨_, c_spec_l01Next a c l hB _ q1 4, hK _ _ _ (by simp only [go_sem, Nat.reduceEqDiff, ↓reduceIte]; rfl) ?_⟩ | refine ⟨_, hK2, hK _ _ _ (by simp only [go_sem, Nat.reduceEqDiff, ↓reduceIte]; rfl) ?_⟩ | refine ⟨_, c_spec_l01Next a c l hB _ q2 4, hK _ _ _ (by simp only [go_sem, Nat.reduceEqDiff, ↓reduceIte]; rfl) ?_⟩); clear hK; clear K) | (with_reducible first | refine rgn_nil (by first | trivial | kernel_rfl) ?_ | refine AWP.seq ?_ | refine tX hC hP (by kernel_rfl) ?_ | refine aX hC hM hP (by kernel_rfl) ?_ | refine AWP.skip ?_ | refine AWP.label ?_ | refine AWP.exit ?_ | refine AWP.block ?_ | refine cTa ?_ | refine cFa ?_) | simp only [qS, Nat.reduceEqDiff, ↓reduceIte]))
  refine AWP.loop (fun w : Nat × Nat => match w with
    | (0, v) => [(8, ⟨0, .val (.int .i64 (dxN l s1 : Nat))⟩), (7, ⟨0, .val (.int .i64 (qrB l s1))⟩), (5, ⟨3, .own (.box 42 (.agg [.int .i64 (qrA l s1), .int .i64 (qrB l s1), .nil]))⟩), (2, ⟨1, .own (.box 42 (.agg [.int .i64 0, .int .i64 0, .nil]))⟩), (3000000, ⟨0, .val (.str (.src a c l))⟩), (4, ⟨0, .val (.addr 10 1 [] 0 [0])⟩), (10, ⟨1, .own (.box 93 (.agg [.str (.raw a l.length c), .int .i64 (dxS l s1).1, .int .u64 (dxS l s1).2]))⟩)]
    | (i + 1, v) => [(8, ⟨0, .val (.int .i64 (dxN l s1 - (i + 1) : Nat))⟩), (7, ⟨0, .val (.int .i64 (qrB l s1))⟩), (5, ⟨v, .own (.box 42 (.agg [.int .i64 (qrA l s1), .int .i64 (qrB l s1), .sl true 2 (intL (nxL l (qrB l s1) (dxS l s1) (i + 1)))]))⟩), (2, ⟨1, .own (.box 42 (.agg [.int .i64 0, .int .i64 0, .nil]))⟩), (3000000, ⟨0, .val (.str (.src a c l))⟩), (4, ⟨0, .val (.addr 10 1 [] 0 [0])⟩), (10, ⟨1, .own (.box 93 (.agg [.str (.raw a l.length c), .int .i64 (nxS l (qrB l s1) (dxS l s1) (i + 1)).1, .int .u64 (nxS l (qrB l s1) (dxS l s1) (i + 1)).2]))⟩)]) (fun w => w.1 ≤ dxN l s1) (fun w => dxN l s1 - w.1) (0, 1) (Nat.zero_le _) (fun w => by obtain ⟨k, v⟩ := w; cases k <;> rfl) ?_ (fun w hw => ?_)
  · simp [Sub, lk, hsN]
  · obtain ⟨i, v⟩ := w
    simp only at hw
    cases i with
    | zero =>
      simp only
      (repeat (first | ((with_reducible refine rgn_cons rfl (fun K hK => ?_)); simp only [go_sem, seval, ↓reduceIte, decide_true, decide_false, show (0 : Int) < ((dxN l s1 : Nat) : Int) by omega, decide_true, show [T.int .i64 (nextX l (dxS l s1) (qrB l s1))] = intL (nxL l (qrB l s1) (dxS l s1) 1) from rfl, nxL_length, List.length_nil, Nat.zero_add, show 1 ≤ 1099511627776 by omega, show 1 * 8 ≤ 140737488355328 by omega, show IntKind.i64.wrap (((dxN l s1 : Nat) : Int) - 1) = ((dxN l s1 - (0 + 1) : Nat) : Int) by rw [wid _ (by omega) (by omega)]; omega]; (first | refine hK _ _ _ (by simp only [go_sem, Nat.reduceEqDiff, ↓reduceIte]; rfl) ?_ | refine ⟨_, c_spec_l01Next a c l hB _ q4 (qrB l s1), hK _ _ _ (by simp only [go_sem, Nat.reduceEqDiff, ↓reduceIte]; rfl) ?_⟩); clear hK; clear K) | (with_reducible first | refine rgn_nil (by first | trivial | kernel_rfl) ?_ | refine AWP.seq ?_ | refine tX hC hP (by kernel_rfl) ?_ | refine aX hC hM hP (by kernel_rfl) ?_ | refine AWP.skip ?_ | refine AWP.label ?_ | refine AWP.exit ?_ | refine AWP.block ?_ | refine cTa ?_ | refine cFa ?_) | simp only [qS, Nat.reduceEqDiff, ↓reduceIte]))
      exact ⟨(0 + 1, 4), by simp only; omega, by simp only; omega, by simp [Sub, lk, nxS]⟩
    | succ i =>
      simp only
      by_cases hi : i + 1 < dxN l s1
      · have hSi := nxS_ok (M := qrB l s1) q4 (i + 1)
        have hll := nxL_length l (qrB l s1) (dxS l s1) (i + 1)
        have hsn : nxL l (qrB l s1) (dxS l s1) (i + 1) ++ [nextX l (nxS l (qrB l s1) (dxS l s1) (i + 1)) (qrB l s1)] = nxL l (qrB l s1) (dxS l s1) (i + 1 + 1) := rfl
        (repeat (first | ((with_reducible refine rgn_cons rfl (fun K hK => ?_)); simp only [go_sem, seval, ↓reduceIte, decide_true, decide_false, show (0 : Int) < ((dxN l s1 - (i + 1) : Nat) : Int) by omega, decide_true, intL_snoc, hll, hsn, show i + 1 + 1 ≤ 1099511627776 by omega, show (i + 1 + 1) * 8 ≤ 140737488355328 by omega, show IntKind.i64.wrap (((dxN l s1 - (i + 1) : Nat) : Int) - 1) = ((dxN l s1 - (i + 1 + 1) : Nat) : Int) by rw [wid _ (by omega) (by omega)]; omega]; (first | refine hK _ _ _ (by simp only [go_sem, Nat.reduceEqDiff, ↓reduceIte]; rfl) ?_ | refine ⟨_, c_spec_l01Next a c l hB _ hSi (qrB l s1), hK _ _ _ (by simp only [go_sem, Nat.reduceEqDiff, ↓reduceIte]; rfl) ?_⟩); clear hK; clear K) | (with_reducible first | refine rgn_nil (by first | trivial | kernel_rfl) ?_ | refine AWP.seq ?_ | refine tX hC hP (by kernel_rfl) ?_ | refine aX hC hM hP (by kernel_rfl) ?_ | refine AWP.skip ?_ | refine AWP.label ?_ | refine AWP.exit ?_ | refine AWP.block ?_ | refine cTa ?_ | refine cFa ?_) | simp only [qS, Nat.reduceEqDiff, ↓reduceIte]))
        exact ⟨(i + 1 + 1, v + 1), by simp only; omega, by simp only; omega, by simp [Sub, lk, nxS]⟩
      · have e : i + 1 = dxN l s1 := by omega
        have hSi := nxS_ok (M := qrB l s1) q4 (dxN l s1)
        rw [e]
        (repeat (first | ((with_reducible refine rgn_cons rfl (fun K hK => ?_)); simp only [go_sem, seval, ↓reduceIte, decide_true, decide_false, show ¬ (0 : Int) < ((dxN l s1 - dxN l s1 : Nat) : Int) by omega, decide_false]; (first | refine hK _ _ _ (by simp only [go_sem, Nat.reduceEqDiff, ↓reduceIte]; rfl) ?_ | refine ⟨_, c_spec_l01Next a c l hB _ hSi 12, hK _ _ _ (by simp only [go_sem, Nat.reduceEqDiff, ↓reduceIte]; rfl) ?_⟩); clear hK; clear K) | (with_reducible first | refine rgn_nil (by first | trivial | kernel_rfl) ?_ | refine AWP.seq ?_ | refine tX hC hP (by kernel_rfl) ?_ | refine aX hC hM hP (by kernel_rfl) ?_ | refine AWP.skip ?_ | refine AWP.label ?_ | refine AWP.exit ?_ | refine AWP.block ?_ | refine cTa ?_ | refine cFa ?_) | simp only [qS, Nat.reduceEqDiff, ↓reduceIte]))
        (refine AWP.ret ?_; refine retOk2 (by simp only [go_sem, seval, ↓reduceIte, decide_true, decide_false]; rfl) (by simp only [go_sem, seval, ↓reduceIte, decide_true, decide_false]; rfl) (by simp) ?_)
        rfl
theorem DrawExponentialOfWitt_ex {a : Option Addr} {c : Nat} {l : List Int} (hB : Byt l) : ∃ p m x t d, x.length ≤ 8 ∧ Wsh p m x t ∧ AFn Tryz.prog 17 [.str (.src a c l)] (.tup [t, .int .i64 d]) := by
  obtain ⟨p, m, x, t, s1, hS1, hx, hw, hC1⟩ := l13Spoil_ex (a := a) (c := c) hB (from0_ok l)
  have hN := dxN_b hB s1
  have hll : (nxL l (qrB l s1) (dxS l s1) (dxN l s1)).length ≤ 8 := by rw [nxL_length]; omega
  cases hw with
  | full x =>
    by_cases h : 0 < nextX l (qrS l s1) 4
    · cases hk : (typB (qrA l s1) && (decide (2 ≤ qrB l s1) && decide (qrB l s1 ≤ 10000)) && (decide ((1 : Int) ≤ 1) && decide ((1 : Int) ≤ 4))) with
      | false => exact ⟨_, _, _, _, _, hx, .full _, c_spec_DrawExponentialOfWitt_f2 a c l hB p m x s1 hS1 hx hC1 h hk⟩
      | true => exact ⟨_, _, _, _, _, hll, .full _, c_spec_DrawExponentialOfWitt_f3 a c l hB p m x s1 hS1 hx hC1 h hk⟩
    · exact ⟨_, _, _, _, _, hx, .full _, c_spec_DrawExponentialOfWitt_f1 a c l hB p m x s1 hS1 hx hC1 h⟩
  | none =>
    by_cases h : 0 < nextX l (qrS l s1) 4
    · cases hk : (typB (qrA l s1) && (decide (2 ≤ qrB l s1) && decide (qrB l s1 ≤ 10000)) && (decide ((1 : Int) ≤ 1) && decide ((1 : Int) ≤ 4))) with
      | false => exact ⟨_, _, _, _, _, hx, .none, c_spec_DrawExponentialOfWitt_n2 a c l hB p m [] s1 hS1 hx hC1 h hk⟩
      | true => exact ⟨_, _, _, _, _, hll, .full _, c_spec_DrawExponentialOfWitt_n3 a c l hB p m [] s1 hS1 hx hC1 h hk⟩
    · exact ⟨_, _, _, _, _, hx, .none, c_spec_DrawExponentialOfWitt_n1 a c l hB p m [] s1 hS1 hx hC1 h⟩
/-- A struct whose list is nil serves where an empty list does. -/
theorem AFn_nil {f : FuncId} (hf : f < 1000000) {p m d : Int} {r : T} (h : AFn Tryz.prog f [.agg [.int .i64 p, .int .i64 m, .sl false 2 (intL [])], .int .i64 d] r) : AFn Tryz.prog f [.agg [.int .i64 p, .int .i64 m, .nil], .int .i64 d] r := by
  obtain ⟨hfn, hc⟩ := (AFn_lt hf).1 h
  refine (AFn_lt hf).2 ⟨hfn, fun w vs κ hcol hinj hlen hC => hc w vs κ hcol hinj (by simpa using hlen) (fun j t v ht hv => ?_)⟩
  match j, ht with
  | 0, ht =>
    simp only [List.getElem?_cons_zero, Option.some.injEq] at ht
    subst ht
    obtain ⟨_, cs, e1, e2⟩ := hC 0 _ v rfl hv
    refine ⟨rfl, cs, e1, ?_⟩
    simp only [CR, CRL, T.size] at e2 ⊢
    refine ⟨e2.1, e2.2.1, ?_, e2.2.2.2⟩
    rw [e2.2.2.1]
    exact ⟨Option.none, 0, rfl, Nat.le_refl _, by decide, fun t ht => by simp [intL] at ht, rfl, fun h => absurd rfl h⟩
  | 1, ht => exact hC 1 _ v ht hv
  | j + 2, ht => simp at ht

end Go.Proofs.YtdnaecmcbkfpaaaGreat
