/-
  Draws of Witt vectors; the laws' dice.
-/
import Derived.Test.YtdnaecmcbkfpaaaGreatDu
namespace Go.Proofs.YtdnaecmcbkfpaaaGreat
open Go.RowKit
set_option linter.unusedSimpArgs false
set_option linter.unusedVariables false
set_option linter.unusedSectionVars false
set_option maxRecDepth 20000
-- Draws of Witt vectors; the laws' dice.
def dwP (l : List Int) (s : Int × Int) : Int := pickX l s [2, 2, 3, 3, 5, 7]
def dwM (l : List Int) (s : Int × Int) : Int := pickX l (nextS l (nextS l s 6) 60) [dwP l s, dwP l s, dwP l s * dwP l s, 4, 6, 2 + nextX l (nextS l s 6) 60, 10000]
def dwT (l : List Int) (s : Int × Int) : Int × Int := nextS l (nextS l (nextS l s 6) 60) 7
def dwN (l : List Int) (s : Int × Int) : Nat := (1 + nextX l (dwT l s) 4).toNat
def dwL (l : List Int) (s : Int × Int) : List Int := nxL l (dwM l s) (nextS l (dwT l s) 4) (dwN l s)
def dwS (l : List Int) (s : Int × Int) : Int × Int := nxS l (dwM l s) (nextS l (dwT l s) 4) (dwN l s)
theorem dwP_b {l : List Int} (hB : Byt l) (s : Int × Int) : 2 ≤ dwP l s ∧ dwP l s ≤ 7 := by
  have := pick_in hB s [2, 2, 3, 3, 5, 7] (by simp)
  simp only [List.mem_cons, List.not_mem_nil, or_false] at this
  unfold dwP
  omega
theorem dwT_ok {l : List Int} {s : Int × Int} (hS : Sok l s) : Sok l (dwT l s) := nextS_ok (nextS_ok (nextS_ok hS _) _) _
theorem dwS_ok {l : List Int} {s : Int × Int} (hS : Sok l s) : Sok l (dwS l s) := nxS_ok (nextS_ok (dwT_ok hS) 4) _
theorem dwN_b {l : List Int} (hB : Byt l) (s : Int × Int) : ((dwN l s : Nat) : Int) = 1 + nextX l (dwT l s) 4 ∧ 1 ≤ dwN l s ∧ dwN l s ≤ 4 := by
  have h := nextX_bound hB (dwT l s) 4
  have h1 := h.2.1 (by decide)
  unfold dwN
  omega
theorem dwL_length {l : List Int} (hB : Byt l) (s : Int × Int) : (dwL l s).length ≤ 4 := by
  have := dwN_b hB s
  rw [dwL, nxL_length]; omega
set_option maxHeartbeats 2000000 in
theorem c_spec_l13Draw (a : Option Addr) (c : Nat) (l : List Int) (hB : Byt l) (s : Int × Int) (hS : Sok l s)  : AFn Tryz.prog (5000000 + 81) [.str (.src a c l), .box 93 (.agg [.str (.raw a l.length c), .int .i64 s.1, .int .u64 s.2])] (.tup [.agg [.int .i64 (dwP l s), .int .i64 (dwM l s), .sl true 2 (intL (dwL l s))], .box 93 (.agg [.str (.raw a l.length c), .int .i64 (dwS l s).1, .int .u64 (dwS l s).2])]) := by
  refine AFg.of' ttOk Tryz.func81 Tryz.ntmps81 (by rw [Tryz.results81]) (by rfl) (by rfl) (by simp) (by decide) (by decide) srcScalar srcScalar rfl (by simp only [go_sem, Nat.reduceAdd, ↓reduceIte]; rfl) mixed (fun C hP hM hC => ?_)
  have hb := dwP_b hB s
  have b1 := nextX_bound hB (nextS l s 6) 60
  have b2 := b1.2.1 (by decide)
  have hN := dwN_b hB s
  have q1 := nextS_ok hS 6
  have q2 := nextS_ok q1 60
  have q3 := dwT_ok hS
  have q4 := nextS_ok q3 4
  have hpp := mul_bound4 (x := dwP l s) (y := dwP l s) (m := 8) (by omega) (by omega) (by omega) (by omega) (by omega)
  (repeat (first | ((with_reducible refine rgn_cons rfl (fun K hK => ?_)); simp only [go_sem, seval, ↓reduceIte, decide_true, decide_false, show pickX l s [2, 2, 3, 3, 5, 7] = dwP l s from rfl, show pickX l (nextS l (nextS l s 6) 60) [dwP l s, dwP l s, dwP l s * dwP l s, 4, 6, 2 + nextX l (nextS l s 6) 60, 10000] = dwM l s from rfl, wid (dwP l s * dwP l s) (by omega) (by omega), wid (2 + nextX l (nextS l s 6) 60) (by omega) (by omega), ← hN.1, wid ((dwN l s : Nat) : Int) (by omega) (by omega)]; (first | refine hK _ _ _ (by simp only [go_sem, Nat.reduceEqDiff, ↓reduceIte]; rfl) ?_ | refine ⟨_, c_spec_l01Pick a c l hB s hS [2, 2, 3, 3, 5, 7] (by simp) (by simp), hK _ _ _ (by simp only [go_sem, Nat.reduceEqDiff, ↓reduceIte]; rfl) ?_⟩ | refine ⟨_, c_spec_l01Next a c l hB _ q1 60, hK _ _ _ (by simp only [go_sem, Nat.reduceEqDiff, ↓reduceIte]; rfl) ?_⟩ | refine ⟨_, c_spec_l01Pick a c l hB _ q2 [dwP l s, dwP l s, dwP l s * dwP l s, 4, 6, 2 + nextX l (nextS l s 6) 60, 10000] (by simp) (by simp), hK _ _ _ (by simp only [go_sem, Nat.reduceEqDiff, ↓reduceIte]; rfl) ?_⟩ | refine ⟨_, c_spec_l01Next a c l hB _ q3 4, hK _ _ _ (by simp only [go_sem, Nat.reduceEqDiff, ↓reduceIte]; rfl) ?_⟩); clear hK; clear K) | (with_reducible first | refine rgn_nil (by first | trivial | kernel_rfl) ?_ | refine AWP.seq ?_ | refine tX hC hP (by kernel_rfl) ?_ | refine aX hC hM hP (by kernel_rfl) ?_ | refine AWP.skip ?_ | refine AWP.label ?_ | refine AWP.exit ?_ | refine AWP.block ?_ | refine cTa ?_ | refine cFa ?_) | simp only [qS, Nat.reduceEqDiff, ↓reduceIte]))
  refine AWP.loop (fun w : Nat × Nat => match w with
    | (0, v) => [(6, ⟨0, .val (.int .i64 (dwN l s : Nat))⟩), (4, ⟨0, .val (.int .i64 (dwM l s))⟩), (5, ⟨2, .own (.box 42 (.agg [.int .i64 (dwP l s), .int .i64 (dwM l s), .nil]))⟩), (2, ⟨1, .own (.box 42 (.agg [.int .i64 0, .int .i64 0, .nil]))⟩), (3000000, ⟨0, .val (.str (.src a c l))⟩), (0, ⟨0, .val (.addr 3000001 0 [] 0 [0])⟩), (3000001, ⟨0, .own (.box 93 (.agg [.str (.raw a l.length c), .int .i64 (nextS l (dwT l s) 4).1, .int .u64 (nextS l (dwT l s) 4).2]))⟩)]
    | (i + 1, v) => [(6, ⟨0, .val (.int .i64 (dwN l s - (i + 1) : Nat))⟩), (4, ⟨0, .val (.int .i64 (dwM l s))⟩), (5, ⟨v, .own (.box 42 (.agg [.int .i64 (dwP l s), .int .i64 (dwM l s), .sl true 2 (intL (nxL l (dwM l s) (nextS l (dwT l s) 4) (i + 1)))]))⟩), (2, ⟨1, .own (.box 42 (.agg [.int .i64 0, .int .i64 0, .nil]))⟩), (3000000, ⟨0, .val (.str (.src a c l))⟩), (0, ⟨0, .val (.addr 3000001 0 [] 0 [0])⟩), (3000001, ⟨0, .own (.box 93 (.agg [.str (.raw a l.length c), .int .i64 (nxS l (dwM l s) (nextS l (dwT l s) 4) (i + 1)).1, .int .u64 (nxS l (dwM l s) (nextS l (dwT l s) 4) (i + 1)).2]))⟩)]) (fun w => w.1 ≤ dwN l s) (fun w => dwN l s - w.1) (0, 1) (Nat.zero_le _) (fun w => by obtain ⟨k, v⟩ := w; cases k <;> rfl) ?_ (fun w hw => ?_)
  · simp [Sub, lk]
  · obtain ⟨i, v⟩ := w
    simp only at hw
    cases i with
    | zero =>
      simp only
      (repeat (first | ((with_reducible refine rgn_cons rfl (fun K hK => ?_)); simp only [go_sem, seval, ↓reduceIte, decide_true, decide_false, show (0 : Int) < ((dwN l s : Nat) : Int) by omega, decide_true, show [T.int .i64 (nextX l (nextS l (dwT l s) 4) (dwM l s))] = intL (nxL l (dwM l s) (nextS l (dwT l s) 4) 1) from rfl, nxL_length, List.length_nil, Nat.zero_add, show 1 ≤ 1099511627776 by omega, show 1 * 8 ≤ 140737488355328 by omega, show IntKind.i64.wrap (((dwN l s : Nat) : Int) - 1) = ((dwN l s - (0 + 1) : Nat) : Int) by rw [wid _ (by omega) (by omega)]; omega]; (first | refine hK _ _ _ (by simp only [go_sem, Nat.reduceEqDiff, ↓reduceIte]; rfl) ?_ | refine ⟨_, c_spec_l01Next a c l hB _ q4 (dwM l s), hK _ _ _ (by simp only [go_sem, Nat.reduceEqDiff, ↓reduceIte]; rfl) ?_⟩); clear hK; clear K) | (with_reducible first | refine rgn_nil (by first | trivial | kernel_rfl) ?_ | refine AWP.seq ?_ | refine tX hC hP (by kernel_rfl) ?_ | refine aX hC hM hP (by kernel_rfl) ?_ | refine AWP.skip ?_ | refine AWP.label ?_ | refine AWP.exit ?_ | refine AWP.block ?_ | refine cTa ?_ | refine cFa ?_) | simp only [qS, Nat.reduceEqDiff, ↓reduceIte]))
      exact ⟨(0 + 1, 3), by simp only; omega, by simp only; omega, by simp [Sub, lk, nxS]⟩
    | succ i =>
      simp only
      by_cases hi : i + 1 < dwN l s
      · have hSi := nxS_ok (M := dwM l s) q4 (i + 1)
        have hll := nxL_length l (dwM l s) (nextS l (dwT l s) 4) (i + 1)
        have hsn : nxL l (dwM l s) (nextS l (dwT l s) 4) (i + 1) ++ [nextX l (nxS l (dwM l s) (nextS l (dwT l s) 4) (i + 1)) (dwM l s)] = nxL l (dwM l s) (nextS l (dwT l s) 4) (i + 1 + 1) := rfl
        (repeat (first | ((with_reducible refine rgn_cons rfl (fun K hK => ?_)); simp only [go_sem, seval, ↓reduceIte, decide_true, decide_false, show (0 : Int) < ((dwN l s - (i + 1) : Nat) : Int) by omega, decide_true, intL_snoc, hll, hsn, show i + 1 + 1 ≤ 1099511627776 by omega, show (i + 1 + 1) * 8 ≤ 140737488355328 by omega, show IntKind.i64.wrap (((dwN l s - (i + 1) : Nat) : Int) - 1) = ((dwN l s - (i + 1 + 1) : Nat) : Int) by rw [wid _ (by omega) (by omega)]; omega]; (first | refine hK _ _ _ (by simp only [go_sem, Nat.reduceEqDiff, ↓reduceIte]; rfl) ?_ | refine ⟨_, c_spec_l01Next a c l hB _ hSi (dwM l s), hK _ _ _ (by simp only [go_sem, Nat.reduceEqDiff, ↓reduceIte]; rfl) ?_⟩); clear hK; clear K) | (with_reducible first | refine rgn_nil (by first | trivial | kernel_rfl) ?_ | refine AWP.seq ?_ | refine tX hC hP (by kernel_rfl) ?_ | refine aX hC hM hP (by kernel_rfl) ?_ | refine AWP.skip ?_ | refine AWP.label ?_ | refine AWP.exit ?_ | refine AWP.block ?_ | refine cTa ?_ | refine cFa ?_) | simp only [qS, Nat.reduceEqDiff, ↓reduceIte]))
        exact ⟨(i + 1 + 1, v + 1), by simp only; omega, by simp only; omega, by simp [Sub, lk, nxS]⟩
      · have e : i + 1 = dwN l s := by omega
        have e2 : nxL l (dwM l s) (nextS l (dwT l s) 4) (i + 1) = dwL l s := by rw [dwL, e]
        have e3 : nxS l (dwM l s) (nextS l (dwT l s) 4) (i + 1) = dwS l s := by rw [dwS, e]
        rw [e2, e3]
        (repeat (first | ((with_reducible refine rgn_cons rfl (fun K hK => ?_)); simp only [go_sem, seval, ↓reduceIte, decide_true, decide_false, show ¬ (0 : Int) < ((dwN l s - (i + 1) : Nat) : Int) by omega, decide_false]; (refine hK _ _ _ (by simp only [go_sem, Nat.reduceEqDiff, ↓reduceIte]; rfl) ?_); clear hK; clear K) | (with_reducible first | refine rgn_nil (by first | trivial | kernel_rfl) ?_ | refine AWP.seq ?_ | refine tX hC hP (by kernel_rfl) ?_ | refine aX hC hM hP (by kernel_rfl) ?_ | refine AWP.skip ?_ | refine AWP.label ?_ | refine AWP.exit ?_ | refine AWP.block ?_ | refine cTa ?_ | refine cFa ?_) | simp only [qS, Nat.reduceEqDiff, ↓reduceIte]))
        (refine AWP.ret ?_; refine retG1 (by simp only [go_sem, seval, ↓reduceIte, decide_true, decide_false]; rfl) (by simp) (by rfl) ?_)
        rfl
set_option maxHeartbeats 2000000 in
theorem c_spec_l13Spoil_a (a : Option Addr) (c : Nat) (l : List Int) (hB : Byt l) (s : Int × Int) (hS : Sok l s) (h : nextX l (dwS l s) 24 = 0) : AFn Tryz.prog (5000000 + 54) [.str (.src a c l), .box 93 (.agg [.str (.raw a l.length c), .int .i64 s.1, .int .u64 s.2])] (.tup [.agg [.int .i64 (pickX l (nextS l (dwS l s) 24) [4, 11, 1]), .int .i64 (dwM l s), .sl true 2 (intL (dwL l s))], .box 93 (.agg [.str (.raw a l.length c), .int .i64 (nextS l (nextS l (dwS l s) 24) 3).1, .int .u64 (nextS l (nextS l (dwS l s) 24) 3).2])]) := by
  refine AFg.of' ttOk Tryz.func54 Tryz.ntmps54 (by rw [Tryz.results54]) (by rfl) (by rfl) (by simp) (by decide) (by decide) srcScalar srcScalar rfl (by simp only [go_sem, Nat.reduceAdd, ↓reduceIte]; rfl) mixed (fun C hP hM hC => ?_)
  have q1 := dwS_ok hS
  (repeat (first | ((with_reducible refine rgn_cons rfl (fun K hK => ?_)); simp only [go_sem, seval, ↓reduceIte, decide_true, decide_false, h]; (first | refine hK _ _ _ (by simp only [go_sem, Nat.reduceEqDiff, ↓reduceIte]; rfl) ?_ | refine ⟨_, c_spec_l13Draw a c l hB s hS, hK _ _ _ (by simp only [go_sem, Nat.reduceEqDiff, ↓reduceIte]; rfl) ?_⟩ | refine ⟨_, c_spec_l01Next a c l hB _ q1 24, hK _ _ _ (by simp only [go_sem, Nat.reduceEqDiff, ↓reduceIte]; rfl) ?_⟩ | refine ⟨_, c_spec_l01Pick a c l hB _ (nextS_ok q1 24) [4, 11, 1] (by simp) (by simp), hK _ _ _ (by simp only [go_sem, Nat.reduceEqDiff, ↓reduceIte]; rfl) ?_⟩); clear hK; clear K) | (with_reducible first | refine rgn_nil (by first | trivial | kernel_rfl) ?_ | refine AWP.seq ?_ | refine tX hC hP (by kernel_rfl) ?_ | refine aX hC hM hP (by kernel_rfl) ?_ | refine AWP.skip ?_ | refine AWP.label ?_ | refine AWP.exit ?_ | refine AWP.block ?_ | refine cTa ?_ | refine cFa ?_) | simp only [qS, Nat.reduceEqDiff, ↓reduceIte]))
  (refine AWP.ret ?_; refine retG1 (by simp only [go_sem, seval, ↓reduceIte, decide_true, decide_false]; rfl) (by simp) (by rfl) ?_)
  rfl
set_option maxHeartbeats 2000000 in
theorem c_spec_l13Spoil_b (a : Option Addr) (c : Nat) (l : List Int) (hB : Byt l) (s : Int × Int) (hS : Sok l s) (h : nextX l (dwS l s) 24 = 1) : AFn Tryz.prog (5000000 + 54) [.str (.src a c l), .box 93 (.agg [.str (.raw a l.length c), .int .i64 s.1, .int .u64 s.2])] (.tup [.agg [.int .i64 (dwP l s), .int .i64 (pickX l (nextS l (dwS l s) 24) [1, 10001, 2]), .sl true 2 (intL (dwL l s))], .box 93 (.agg [.str (.raw a l.length c), .int .i64 (nextS l (nextS l (dwS l s) 24) 3).1, .int .u64 (nextS l (nextS l (dwS l s) 24) 3).2])]) := by
  refine AFg.of' ttOk Tryz.func54 Tryz.ntmps54 (by rw [Tryz.results54]) (by rfl) (by rfl) (by simp) (by decide) (by decide) srcScalar srcScalar rfl (by simp only [go_sem, Nat.reduceAdd, ↓reduceIte]; rfl) mixed (fun C hP hM hC => ?_)
  have q1 := dwS_ok hS
  (repeat (first | ((with_reducible refine rgn_cons rfl (fun K hK => ?_)); simp only [go_sem, seval, ↓reduceIte, decide_true, decide_false, h, show ((1 : Int) == 0) = false from rfl]; (first | refine hK _ _ _ (by simp only [go_sem, Nat.reduceEqDiff, ↓reduceIte]; rfl) ?_ | refine ⟨_, c_spec_l13Draw a c l hB s hS, hK _ _ _ (by simp only [go_sem, Nat.reduceEqDiff, ↓reduceIte]; rfl) ?_⟩ | refine ⟨_, c_spec_l01Next a c l hB _ q1 24, hK _ _ _ (by simp only [go_sem, Nat.reduceEqDiff, ↓reduceIte]; rfl) ?_⟩ | refine ⟨_, c_spec_l01Pick a c l hB _ (nextS_ok q1 24) [1, 10001, 2] (by simp) (by simp), hK _ _ _ (by simp only [go_sem, Nat.reduceEqDiff, ↓reduceIte]; rfl) ?_⟩); clear hK; clear K) | (with_reducible first | refine rgn_nil (by first | trivial | kernel_rfl) ?_ | refine AWP.seq ?_ | refine tX hC hP (by kernel_rfl) ?_ | refine aX hC hM hP (by kernel_rfl) ?_ | refine AWP.skip ?_ | refine AWP.label ?_ | refine AWP.exit ?_ | refine AWP.block ?_ | refine cTa ?_ | refine cFa ?_) | simp only [qS, Nat.reduceEqDiff, ↓reduceIte]))
  (refine AWP.ret ?_; refine retG1 (by simp only [go_sem, seval, ↓reduceIte, decide_true, decide_false]; rfl) (by simp) (by rfl) ?_)
  rfl
theorem intL_zeros : [T.int .i64 0, T.int .i64 0, T.int .i64 0, T.int .i64 0] = intL [0, 0, 0, 0] := rfl
theorem intL_app2 (a b : List Int) : intL a ++ intL b = intL (a ++ b) := by simp [intL]
set_option maxHeartbeats 2000000 in
theorem c_spec_l13Spoil_c (a : Option Addr) (c : Nat) (l : List Int) (hB : Byt l) (s : Int × Int) (hS : Sok l s) (h : nextX l (dwS l s) 24 = 2) : AFn Tryz.prog (5000000 + 54) [.str (.src a c l), .box 93 (.agg [.str (.raw a l.length c), .int .i64 s.1, .int .u64 s.2])] (.tup [.agg [.int .i64 (dwP l s), .int .i64 (dwM l s), .sl true 2 (intL (dwL l s ++ [0, 0, 0, 0]))], .box 93 (.agg [.str (.raw a l.length c), .int .i64 (nextS l (dwS l s) 24).1, .int .u64 (nextS l (dwS l s) 24).2])]) := by
  refine AFg.of' ttOk Tryz.func54 Tryz.ntmps54 (by rw [Tryz.results54]) (by rfl) (by rfl) (by simp) (by decide) (by decide) srcScalar srcScalar rfl (by simp only [go_sem, Nat.reduceAdd, ↓reduceIte]; rfl) mixed (fun C hP hM hC => ?_)
  have q1 := dwS_ok hS
  have hl := dwL_length hB s
  (repeat (first | ((with_reducible refine rgn_cons rfl (fun K hK => ?_)); simp only [go_sem, seval, ↓reduceIte, decide_true, decide_false, h, show ((2 : Int) == 0) = false from rfl, show ((2 : Int) == 1) = false from rfl, intL_zeros, intL_app2, intL_plain, show (dwL l s).length + 4 ≤ 1099511627776 by omega, show ((dwL l s).length + 4) * 8 ≤ 140737488355328 by omega]; (first | refine hK _ _ _ (by simp only [go_sem, Nat.reduceEqDiff, ↓reduceIte]; rfl) ?_ | refine ⟨_, c_spec_l13Draw a c l hB s hS, hK _ _ _ (by simp only [go_sem, Nat.reduceEqDiff, ↓reduceIte]; rfl) ?_⟩ | refine ⟨_, c_spec_l01Next a c l hB _ q1 24, hK _ _ _ (by simp only [go_sem, Nat.reduceEqDiff, ↓reduceIte]; rfl) ?_⟩); clear hK; clear K) | (with_reducible first | refine rgn_nil (by first | trivial | kernel_rfl) ?_ | refine AWP.seq ?_ | refine tX hC hP (by kernel_rfl) ?_ | refine aX hC hM hP (by kernel_rfl) ?_ | refine AWP.skip ?_ | refine AWP.label ?_ | refine AWP.exit ?_ | refine AWP.block ?_ | refine cTa ?_ | refine cFa ?_) | simp only [qS, Nat.reduceEqDiff, ↓reduceIte]))
  (refine AWP.ret ?_; refine retG1 (by simp only [go_sem, seval, ↓reduceIte, decide_true, decide_false]; rfl) (by simp) (by rfl) ?_)
  rfl
set_option maxHeartbeats 2000000 in
theorem c_spec_l13Spoil_d (a : Option Addr) (c : Nat) (l : List Int) (hB : Byt l) (s : Int × Int) (hS : Sok l s) (h : nextX l (dwS l s) 24 = 3) : AFn Tryz.prog (5000000 + 54) [.str (.src a c l), .box 93 (.agg [.str (.raw a l.length c), .int .i64 s.1, .int .u64 s.2])] (.tup [(.agg [.int .i64 (dwP l s), .int .i64 (dwM l s), .nil]), .box 93 (.agg [.str (.raw a l.length c), .int .i64 (nextS l (dwS l s) 24).1, .int .u64 (nextS l (dwS l s) 24).2])]) := by
  refine AFg.of' ttOk Tryz.func54 Tryz.ntmps54 (by rw [Tryz.results54]) (by rfl) (by rfl) (by simp) (by decide) (by decide) srcScalar srcScalar rfl (by simp only [go_sem, Nat.reduceAdd, ↓reduceIte]; rfl) mixed (fun C hP hM hC => ?_)
  have q1 := dwS_ok hS
  (repeat (first | ((with_reducible refine rgn_cons rfl (fun K hK => ?_)); simp only [go_sem, seval, ↓reduceIte, decide_true, decide_false, h, show ((3 : Int) == 0) = false from rfl, show ((3 : Int) == 1) = false from rfl, show ((3 : Int) == 2) = false from rfl]; (first | refine hK _ _ _ (by simp only [go_sem, Nat.reduceEqDiff, ↓reduceIte]; rfl) ?_ | refine ⟨_, c_spec_l13Draw a c l hB s hS, hK _ _ _ (by simp only [go_sem, Nat.reduceEqDiff, ↓reduceIte]; rfl) ?_⟩ | refine ⟨_, c_spec_l01Next a c l hB _ q1 24, hK _ _ _ (by simp only [go_sem, Nat.reduceEqDiff, ↓reduceIte]; rfl) ?_⟩); clear hK; clear K) | (with_reducible first | refine rgn_nil (by first | trivial | kernel_rfl) ?_ | refine AWP.seq ?_ | refine tX hC hP (by kernel_rfl) ?_ | refine aX hC hM hP (by kernel_rfl) ?_ | refine AWP.skip ?_ | refine AWP.label ?_ | refine AWP.exit ?_ | refine AWP.block ?_ | refine cTa ?_ | refine cFa ?_) | simp only [qS, Nat.reduceEqDiff, ↓reduceIte]))
  (refine AWP.ret ?_; refine retG1 (by simp only [go_sem, seval, ↓reduceIte, decide_true, decide_false]; rfl) (by simp) (by rfl) ?_)
  rfl
set_option maxHeartbeats 2000000 in
theorem c_spec_l13Spoil_e (a : Option Addr) (c : Nat) (l : List Int) (hB : Byt l) (s : Int × Int) (hS : Sok l s) (h0 : ¬ nextX l (dwS l s) 24 = 0) (h1 : ¬ nextX l (dwS l s) 24 = 1) (h2 : ¬ nextX l (dwS l s) 24 = 2) (h3 : ¬ nextX l (dwS l s) 24 = 3) : AFn Tryz.prog (5000000 + 54) [.str (.src a c l), .box 93 (.agg [.str (.raw a l.length c), .int .i64 s.1, .int .u64 s.2])] (.tup [.agg [.int .i64 (dwP l s), .int .i64 (dwM l s), .sl true 2 (intL (dwL l s))], .box 93 (.agg [.str (.raw a l.length c), .int .i64 (nextS l (dwS l s) 24).1, .int .u64 (nextS l (dwS l s) 24).2])]) := by
  refine AFg.of' ttOk Tryz.func54 Tryz.ntmps54 (by rw [Tryz.results54]) (by rfl) (by rfl) (by simp) (by decide) (by decide) srcScalar srcScalar rfl (by simp only [go_sem, Nat.reduceAdd, ↓reduceIte]; rfl) mixed (fun C hP hM hC => ?_)
  have q1 := dwS_ok hS
  (repeat (first | ((with_reducible refine rgn_cons rfl (fun K hK => ?_)); simp only [go_sem, seval, ↓reduceIte, decide_true, decide_false, beqF h0, beqF h1, beqF h2, beqF h3]; (first | refine hK _ _ _ (by simp only [go_sem, Nat.reduceEqDiff, ↓reduceIte]; rfl) ?_ | refine ⟨_, c_spec_l13Draw a c l hB s hS, hK _ _ _ (by simp only [go_sem, Nat.reduceEqDiff, ↓reduceIte]; rfl) ?_⟩ | refine ⟨_, c_spec_l01Next a c l hB _ q1 24, hK _ _ _ (by simp only [go_sem, Nat.reduceEqDiff, ↓reduceIte]; rfl) ?_⟩); clear hK; clear K) | (with_reducible first | refine rgn_nil (by first | trivial | kernel_rfl) ?_ | refine AWP.seq ?_ | refine tX hC hP (by kernel_rfl) ?_ | refine aX hC hM hP (by kernel_rfl) ?_ | refine AWP.skip ?_ | refine AWP.label ?_ | refine AWP.exit ?_ | refine AWP.block ?_ | refine cTa ?_ | refine cFa ?_) | simp only [qS, Nat.reduceEqDiff, ↓reduceIte]))
  (refine AWP.ret ?_; refine retG1 (by simp only [go_sem, seval, ↓reduceIte, decide_true, decide_false]; rfl) (by simp) (by rfl) ?_)
  rfl
/-- A Witt vector, with its numbers or without. -/
inductive Wsh (p m : Int) : List Int → T → Prop
  | full (x : List Int) : Wsh p m x (.agg [.int .i64 p, .int .i64 m, .sl true 2 (intL x)])
  | none : Wsh p m [] (.agg [.int .i64 p, .int .i64 m, .nil])
theorem l13Spoil_ex {a : Option Addr} {c : Nat} {l : List Int} (hB : Byt l) {s : Int × Int} (hS : Sok l s) : ∃ p m x t s', Sok l s' ∧ x.length ≤ 8 ∧ Wsh p m x t ∧ AFn Tryz.prog (5000000 + 54) [.str (.src a c l), SRA a c l s] (.tup [t, SRA a c l s']) := by
  have q1 := dwS_ok hS
  have hl := dwL_length hB s
  by_cases h0 : nextX l (dwS l s) 24 = 0
  · exact ⟨_, _, _, _, _, nextS_ok (nextS_ok q1 _) _, by omega, .full _, c_spec_l13Spoil_a a c l hB s hS h0⟩
  by_cases h1 : nextX l (dwS l s) 24 = 1
  · exact ⟨_, _, _, _, _, nextS_ok (nextS_ok q1 _) _, by omega, .full _, c_spec_l13Spoil_b a c l hB s hS h1⟩
  by_cases h2 : nextX l (dwS l s) 24 = 2
  · exact ⟨_, _, _, _, _, nextS_ok q1 _, by rw [List.length_append]; simp; omega, .full _, c_spec_l13Spoil_c a c l hB s hS h2⟩
  by_cases h3 : nextX l (dwS l s) 24 = 3
  · exact ⟨_, _, _, _, _, nextS_ok q1 _, by simp, .none, c_spec_l13Spoil_d a c l hB s hS h3⟩
  · exact ⟨_, _, _, _, _, nextS_ok q1 _, by omega, .full _, c_spec_l13Spoil_e a c l hB s hS h0 h1 h2 h3⟩
/-- The laws' dice. -/
def rlS (l : List Int) (sd : Int) : Nat → Int
  | 0 => IntKind.u64.wrap (IntKind.u64.wrap (sd * 6257) + IntKind.u64.wrap (l.length : Int))
  | i + 1 => IntKind.u64.wrap (IntKind.u64.wrap (IntKind.u64.wrap (rlS l sd i * 1099511628211) + IntKind.u64.wrap (l.getD i 0)) + 5)
def roll0 (l : List Int) (sd : Int) : Int × Int := (0, rlS l sd l.length)
theorem roll0_ok (l : List Int) (sd : Int) : Sok l (roll0 l sd) := ⟨Int.le_refl 0, Int.natCast_nonneg _⟩
set_option maxHeartbeats 2000000 in
theorem c_laws_roll (a : Option Addr) (c : Nat) (l : List Int) (sd : Int) (hB : Byt l) : AFn Tryz.prog 20 [.str (.src a c l), .int .u64 sd] (.box 82 (.agg [.str (.raw a l.length c), .int .i64 (roll0 l sd).1, .int .u64 (roll0 l sd).2])) := by
  refine AFn.of' ttOk (by decide) Tryz.func20 Tryz.ntmps20 (by rw [Tryz.results20]) (by rfl) (by rfl) (by simp) (by decide) (by simp only [go_sem, Nat.reduceAdd, ↓reduceIte]; rfl) mixed (fun C hP hM hC => ?_)
  have hb := hB.1
  (repeat (first | ((with_reducible refine rgn_cons rfl (fun K hK => ?_)); simp only [go_sem, seval, ↓reduceIte, decide_true, decide_false]; (refine hK _ _ _ (by simp only [go_sem, Nat.reduceEqDiff, ↓reduceIte]; rfl) ?_); clear hK; clear K) | (with_reducible first | refine rgn_nil (by first | trivial | kernel_rfl) ?_ | refine AWP.seq ?_ | refine tX hC hP (by kernel_rfl) ?_ | refine aX hC hM hP (by kernel_rfl) ?_ | refine AWP.skip ?_ | refine AWP.label ?_ | refine AWP.exit ?_ | refine AWP.block ?_ | refine cTa ?_ | refine cFa ?_) | simp only [qS, Nat.reduceEqDiff, ↓reduceIte]))
  refine AWP.loop (fun i : Nat => [(6, ⟨0, .val (.int .i64 i)⟩), (5, ⟨0, .val (.addr 15 1 [] 0 [0])⟩), (15, ⟨1, .own (.box 82 (.agg [.str (.raw a l.length c), .int .i64 0, .int .u64 (rlS l sd i)]))⟩), (0, ⟨0, .val (.str (.src a c l))⟩)]) (fun i => i ≤ l.length) (fun i => l.length - i) 0 (Nat.zero_le _) (fun i => rfl) ?_ (fun i hi => ?_)
  · simp [Sub, lk, rlS]
  · by_cases h1 : i < l.length
    · (repeat (first | ((with_reducible refine rgn_cons rfl (fun K hK => ?_)); simp only [go_sem, seval, ↓reduceIte, decide_true, decide_false, show (i : Int) < (l.length : Int) by omega, decide_true, Int.natCast_nonneg, Int.toNat_natCast, wid ((i : Int) + 1) (by omega) (by omega)]; (refine hK _ _ _ (by simp only [go_sem, Nat.reduceEqDiff, ↓reduceIte]; rfl) ?_); clear hK; clear K) | (with_reducible first | refine rgn_nil (by first | trivial | kernel_rfl) ?_ | refine AWP.seq ?_ | refine tX hC hP (by kernel_rfl) ?_ | refine aX hC hM hP (by kernel_rfl) ?_ | refine AWP.skip ?_ | refine AWP.label ?_ | refine AWP.exit ?_ | refine AWP.block ?_ | refine cTa ?_ | refine cFa ?_) | simp only [qS, Nat.reduceEqDiff, ↓reduceIte]))
      exact ⟨i + 1, h1, by omega, by simp [Sub, lk, rlS]⟩
    · (repeat (first | ((with_reducible refine rgn_cons rfl (fun K hK => ?_)); simp only [go_sem, seval, ↓reduceIte, decide_true, decide_false, show ¬ (i : Int) < (l.length : Int) by omega, decide_false]; (refine hK _ _ _ (by simp only [go_sem, Nat.reduceEqDiff, ↓reduceIte]; rfl) ?_); clear hK; clear K) | (with_reducible first | refine rgn_nil (by first | trivial | kernel_rfl) ?_ | refine AWP.seq ?_ | refine tX hC hP (by kernel_rfl) ?_ | refine aX hC hM hP (by kernel_rfl) ?_ | refine AWP.skip ?_ | refine AWP.label ?_ | refine AWP.exit ?_ | refine AWP.block ?_ | refine cTa ?_ | refine cFa ?_) | simp only [qS, Nat.reduceEqDiff, ↓reduceIte]))
      (refine AWP.ret ?_; refine retOk1 (by simp only [go_sem, seval, ↓reduceIte, decide_true, decide_false]; rfl) ?_)
      rw [roll0, show l.length = i by omega]
set_option maxHeartbeats 2000000 in
theorem c_laws_dice_below (a : Option Addr) (c : Nat) (l : List Int) (hB : Byt l) (s : Int × Int) (hS : Sok l s) (n : Int) : AFn Tryz.prog (5000000 + 21) [.str (.src a c l), .box 82 (.agg [.str (.raw a l.length c), .int .i64 s.1, .int .u64 s.2]), .int .i64 n] (.tup [.int .i64 (nextX l s n), .box 82 (.agg [.str (.raw a l.length c), .int .i64 (nextS l s n).1, .int .u64 (nextS l s n).2])]) := by
  refine AFg.of' ttOk Tryz.func21 Tryz.ntmps21 (by rw [Tryz.results21]) (by rfl) (by rfl) (by simp) (by decide) (by decide) srcScalar srcScalar rfl (by simp only [go_sem, Nat.reduceAdd, ↓reduceIte]; rfl) mixed (fun C hP hM hC => ?_)
  by_cases h : n < 1
  · rw [show nextS l s n = s from if_pos h, show nextX l s n = 0 from if_pos h]
    (repeat (first | ((with_reducible refine rgn_cons rfl (fun K hK => ?_)); simp only [go_sem, seval, ↓reduceIte, decide_true, decide_false, h, decide_true]; (refine hK _ _ _ (by simp only [go_sem, Nat.reduceEqDiff, ↓reduceIte]; rfl) ?_); clear hK; clear K) | (with_reducible first | refine rgn_nil (by first | trivial | kernel_rfl) ?_ | refine AWP.seq ?_ | refine tX hC hP (by kernel_rfl) ?_ | refine aX hC hM hP (by kernel_rfl) ?_ | refine AWP.skip ?_ | refine AWP.label ?_ | refine AWP.exit ?_ | refine AWP.block ?_ | refine cTa ?_ | refine cFa ?_) | simp only [qS, Nat.reduceEqDiff, ↓reduceIte]))
    (refine AWP.ret ?_; refine retG1 (by simp only [go_sem, seval, ↓reduceIte, decide_true, decide_false]; rfl) (by simp) (by rfl) ?_)
    rfl
  · have e1 : IntKind.u64.wrap (IntKind.u64.wrap (s.2 * 6364136223846793005) + 1442695040888963407) = hashN s.2 := rfl
    have e2 : IntKind.i64.wrap (IntKind.u64.wrap ((BitVec.ofInt 64 (shrI .u64 (hashN s.2) 33) &&& 16777215#64).toNat : Int)) = drawX (hashN s.2) := rfl
    have h2 := drawX_bound (hashN s.2)
    have h3 := byt_at hB s.1.toNat
    have hb := hB.1
    obtain ⟨hs1, hs2⟩ := hS
    by_cases h1 : s.1 < (l.length : Int)
    · rw [show nextS l s n = (s.1 + 1, hashN s.2) by rw [nextS, if_neg h, if_pos h1], show nextX l s n = (drawX (hashN s.2) + l.getD s.1.toNat 0).tmod n by rw [nextX, if_neg h, if_pos h1]]
      (repeat (first | ((with_reducible refine rgn_cons rfl (fun K hK => ?_)); simp only [go_sem, seval, ↓reduceIte, decide_true, decide_false, h, h1, hs1, show n ≠ 0 by omega, decide_false, decide_true, e1, e2, wid (l.getD s.1.toNat 0) (by omega) (by omega), wid (s.1 + 1) (by omega) (by omega)]; (refine hK _ _ _ (by simp only [go_sem, Nat.reduceEqDiff, ↓reduceIte]; rfl) ?_); clear hK; clear K) | (with_reducible first | refine rgn_nil (by first | trivial | kernel_rfl) ?_ | refine AWP.seq ?_ | refine tX hC hP (by kernel_rfl) ?_ | refine aX hC hM hP (by kernel_rfl) ?_ | refine AWP.skip ?_ | refine AWP.label ?_ | refine AWP.exit ?_ | refine AWP.block ?_ | refine cTa ?_ | refine cFa ?_) | simp only [qS, Nat.reduceEqDiff, ↓reduceIte]))
      (refine AWP.ret ?_; refine retG1 (by simp only [go_sem, seval, ↓reduceIte, decide_true, decide_false]; rfl) (by simp) (by rfl) ?_)
      show _ = T.int .i64 ((IntKind.i64.wrap (drawX (hashN s.2) + l.getD s.1.toNat 0)).tmod n)
      rw [wid _ (by omega) (by omega)]
    · rw [show nextS l s n = (s.1, hashN s.2) by rw [nextS, if_neg h, if_neg h1], show nextX l s n = (drawX (hashN s.2)).tmod n by rw [nextX, if_neg h, if_neg h1]]
      (repeat (first | ((with_reducible refine rgn_cons rfl (fun K hK => ?_)); simp only [go_sem, seval, ↓reduceIte, decide_true, decide_false, h, h1, show n ≠ 0 by omega, decide_false, e1, e2]; (refine hK _ _ _ (by simp only [go_sem, Nat.reduceEqDiff, ↓reduceIte]; rfl) ?_); clear hK; clear K) | (with_reducible first | refine rgn_nil (by first | trivial | kernel_rfl) ?_ | refine AWP.seq ?_ | refine tX hC hP (by kernel_rfl) ?_ | refine aX hC hM hP (by kernel_rfl) ?_ | refine AWP.skip ?_ | refine AWP.label ?_ | refine AWP.exit ?_ | refine AWP.block ?_ | refine cTa ?_ | refine cFa ?_) | simp only [qS, Nat.reduceEqDiff, ↓reduceIte]))
      (refine AWP.ret ?_; refine retG1 (by simp only [go_sem, seval, ↓reduceIte, decide_true, decide_false]; rfl) (by simp) (by rfl) ?_)
      rfl
end Go.Proofs.YtdnaecmcbkfpaaaGreat
