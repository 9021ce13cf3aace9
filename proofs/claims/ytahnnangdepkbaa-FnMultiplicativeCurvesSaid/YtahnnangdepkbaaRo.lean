/-
  The laws' dice.
-/
import Derived.Test.YtahnnangdepkbaaDs
import Derived.Test.YtahnnangdepkbaaFin
namespace Go.Proofs.Ytahnnangdepkbaa
open Go.RowKit
set_option linter.unusedSimpArgs false
set_option linter.unusedVariables false
set_option linter.unusedSectionVars false
set_option maxRecDepth 20000
-- The laws' dice.
/-- The laws' dice. -/
def rlS (l : List Int) (sd : Int) : Nat → Int
  | 0 => IntKind.u64.wrap (IntKind.u64.wrap (sd * 6257) + IntKind.u64.wrap (l.length : Int))
  | i + 1 => IntKind.u64.wrap (IntKind.u64.wrap (IntKind.u64.wrap (rlS l sd i * 1099511628211) + IntKind.u64.wrap (l.getD i 0)) + 5)
def roll0 (l : List Int) (sd : Int) : Int × Int := (0, rlS l sd l.length)
theorem roll0_ok (l : List Int) (sd : Int) : Sok l (roll0 l sd) := ⟨Int.le_refl 0, Int.natCast_nonneg _⟩
set_option maxHeartbeats 2000000 in
theorem c_laws_roll (a : Option Addr) (c : Nat) (l : List Int) (sd : Int) (hB : Byt l) : AFn Try.prog 5 [.str (.src a c l), .int .u64 sd] (.box 43 (.agg [.str (.raw a l.length c), .int .i64 (roll0 l sd).1, .int .u64 (roll0 l sd).2])) := by
  refine AFn.of' ttOk (by decide) Try.func5 Try.ntmps5 (by rw [Try.results5]) (by rfl) (by rfl) (by simp) (by decide) (by simp only [go_sem, Nat.reduceAdd, ↓reduceIte]; rfl) mixed (fun C hP hM hC => ?_)
  have hb := hB.1
  (repeat (first | ((with_reducible refine rgn_cons rfl (fun K hK => ?_)); simp only [go_sem, seval, ↓reduceIte, decide_true, decide_false]; (refine hK _ _ _ (by simp only [go_sem, Nat.reduceEqDiff, ↓reduceIte]; rfl) ?_); clear hK; clear K) | (with_reducible first | refine rgn_nil (by first | trivial | kernel_rfl) ?_ | refine AWP.seq ?_ | refine tX hC hP (by kernel_rfl) ?_ | refine aX hC hM hP (by kernel_rfl) ?_ | refine AWP.skip ?_ | refine AWP.label ?_ | refine AWP.exit ?_ | refine AWP.block ?_ | refine cTa ?_ | refine cFa ?_) | simp only [qS, Nat.reduceEqDiff, ↓reduceIte]))
  refine AWP.loop (fun i : Nat => [(6, ⟨0, .val (.int .i64 i)⟩), (5, ⟨0, .val (.addr 15 1 [] 0 [0])⟩), (15, ⟨1, .own (.box 43 (.agg [.str (.raw a l.length c), .int .i64 0, .int .u64 (rlS l sd i)]))⟩), (0, ⟨0, .val (.str (.src a c l))⟩)]) (fun i => i ≤ l.length) (fun i => l.length - i) 0 (Nat.zero_le _) (fun i => rfl) ?_ (fun i hi => ?_)
  · simp [Sub, lk, rlS]
  · by_cases h1 : i < l.length
    · (repeat (first | ((with_reducible refine rgn_cons rfl (fun K hK => ?_)); simp only [go_sem, seval, ↓reduceIte, decide_true, decide_false, show (i : Int) < (l.length : Int) by omega, decide_true, Int.natCast_nonneg, Int.toNat_natCast, wid ((i : Int) + 1) (by omega) (by omega)]; (refine hK _ _ _ (by simp only [go_sem, Nat.reduceEqDiff, ↓reduceIte]; rfl) ?_); clear hK; clear K) | (with_reducible first | refine rgn_nil (by first | trivial | kernel_rfl) ?_ | refine AWP.seq ?_ | refine tX hC hP (by kernel_rfl) ?_ | refine aX hC hM hP (by kernel_rfl) ?_ | refine AWP.skip ?_ | refine AWP.label ?_ | refine AWP.exit ?_ | refine AWP.block ?_ | refine cTa ?_ | refine cFa ?_) | simp only [qS, Nat.reduceEqDiff, ↓reduceIte]))
      exact ⟨i + 1, h1, by omega, by simp [Sub, lk, rlS]⟩
    · (repeat (first | ((with_reducible refine rgn_cons rfl (fun K hK => ?_)); simp only [go_sem, seval, ↓reduceIte, decide_true, decide_false, show ¬ (i : Int) < (l.length : Int) by omega, decide_false]; (refine hK _ _ _ (by simp only [go_sem, Nat.reduceEqDiff, ↓reduceIte]; rfl) ?_); clear hK; clear K) | (with_reducible first | refine rgn_nil (by first | trivial | kernel_rfl) ?_ | refine AWP.seq ?_ | refine tX hC hP (by kernel_rfl) ?_ | refine aX hC hM hP (by kernel_rfl) ?_ | refine AWP.skip ?_ | refine AWP.label ?_ | refine AWP.exit ?_ | refine AWP.block ?_ | refine cTa ?_ | refine cFa ?_) | simp only [qS, Nat.reduceEqDiff, ↓reduceIte]))
      (refine AWP.ret ?_; refine retOk1 (by simp only [go_sem, seval, ↓reduceIte, decide_true, decide_false]; rfl) ?_)
      rw [roll0, show l.length = i by omega]
set_option maxHeartbeats 2000000 in
theorem c_laws_dice_below (a : Option Addr) (c : Nat) (l : List Int) (hB : Byt l) (s : Int × Int) (hS : Sok l s) (n : Int) : AFn Try.prog (5000000 + 6) [.str (.src a c l), .box 43 (.agg [.str (.raw a l.length c), .int .i64 s.1, .int .u64 s.2]), .int .i64 n] (.tup [.int .i64 (nextX l s n), .box 43 (.agg [.str (.raw a l.length c), .int .i64 (nextS l s n).1, .int .u64 (nextS l s n).2])]) := by
  refine AFg.of' ttOk Try.func6 Try.ntmps6 (by rw [Try.results6]) (by rfl) (by rfl) (by simp) (by decide) (by decide) srcScalar srcScalar rfl (by simp only [go_sem, Nat.reduceAdd, ↓reduceIte]; rfl) mixed (fun C hP hM hC => ?_)
  by_cases h : n < 1
  · rw [show nextS l s n = s from if_pos h, show nextX l s n = 0 from if_pos h]
    (repeat (first | ((with_reducible refine rgn_cons rfl (fun K hK => ?_)); simp only [go_sem, seval, ↓reduceIte, decide_true, decide_false, h, decide_true]; (refine hK _ _ _ (by simp only [go_sem, Nat.reduceEqDiff, ↓reduceIte]; rfl) ?_); clear hK; clear K) | (with_reducible first | refine rgn_nil (by first | trivial | kernel_rfl) ?_ | refine AWP.seq ?_ | refine tX hC hP (by kernel_rfl) ?_ | refine aX hC hM hP (by kernel_rfl) ?_ | refine AWP.skip ?_ | refine AWP.label ?_ | refine AWP.exit ?_ | refine AWP.block ?_ | refine cTa ?_ | refine cFa ?_) | simp only [qS, Nat.reduceEqDiff, ↓reduceIte]))
    (refine AWP.ret ?_; refine retG1 (by simp only [go_sem, seval, ↓reduceIte, decide_true, decide_false]; rfl) (by simp) (by rfl) ?_)
    rfl
  · have e1 : IntKind.u64.wrap (IntKind.u64.wrap (s.2 * 6364136223846793005) + 1442695040888963407) = hashN s.2 := rfl
    have e2 : IntKind.i64.wrap (IntKind.u64.wrap ((BitVec.ofInt 64 (shrI .u64 (hashN s.2) 33) &&& 16777215#64).toNat : Int)) = drawX (hashN s.2) := rfl
    have h2 := drawX_bound (hashN s.2)
    have h3 := byt_at hB s.1.toNat
    have hb := hB.1
    obtain ⟨hs1, hs2⟩ := hS
    by_cases h1 : s.1 < (l.length : Int)
    · rw [show nextS l s n = (s.1 + 1, hashN s.2) by rw [nextS, if_neg h, if_pos h1], show nextX l s n = (drawX (hashN s.2) + l.getD s.1.toNat 0).tmod n by rw [nextX, if_neg h, if_pos h1]]
      (repeat (first | ((with_reducible refine rgn_cons rfl (fun K hK => ?_)); simp only [go_sem, seval, ↓reduceIte, decide_true, decide_false, h, h1, hs1, show n ≠ 0 by omega, decide_false, decide_true, e1, e2, wid (l.getD s.1.toNat 0) (by omega) (by omega), wid (s.1 + 1) (by omega) (by omega)]; (refine hK _ _ _ (by simp only [go_sem, Nat.reduceEqDiff, ↓reduceIte]; rfl) ?_); clear hK; clear K) | (with_reducible first | refine rgn_nil (by first | trivial | kernel_rfl) ?_ | refine AWP.seq ?_ | refine tX hC hP (by kernel_rfl) ?_ | refine aX hC hM hP (by kernel_rfl) ?_ | refine AWP.skip ?_ | refine AWP.label ?_ | refine AWP.exit ?_ | refine AWP.block ?_ | refine cTa ?_ | refine cFa ?_) | simp only [qS, Nat.reduceEqDiff, ↓reduceIte]))
      (refine AWP.ret ?_; refine retG1 (by simp only [go_sem, seval, ↓reduceIte, decide_true, decide_false]; rfl) (by simp) (by rfl) ?_)
      show _ = T.int .i64 ((IntKind.i64.wrap (drawX (hashN s.2) + l.getD s.1.toNat 0)).tmod n)
      rw [wid _ (by omega) (by omega)]
    · rw [show nextS l s n = (s.1, hashN s.2) by rw [nextS, if_neg h, if_neg h1], show nextX l s n = (drawX (hashN s.2)).tmod n by rw [nextX, if_neg h, if_neg h1]]
      (repeat (first | ((with_reducible refine rgn_cons rfl (fun K hK => ?_)); simp only [go_sem, seval, ↓reduceIte, decide_true, decide_false, h, h1, show n ≠ 0 by omega, decide_false, e1, e2]; (refine hK _ _ _ (by simp only [go_sem, Nat.reduceEqDiff, ↓reduceIte]; rfl) ?_); clear hK; clear K) | (with_reducible first | refine rgn_nil (by first | trivial | kernel_rfl) ?_ | refine AWP.seq ?_ | refine tX hC hP (by kernel_rfl) ?_ | refine aX hC hM hP (by kernel_rfl) ?_ | refine AWP.skip ?_ | refine AWP.label ?_ | refine AWP.exit ?_ | refine AWP.block ?_ | refine cTa ?_ | refine cFa ?_) | simp only [qS, Nat.reduceEqDiff, ↓reduceIte]))
      (refine AWP.ret ?_; refine retG1 (by simp only [go_sem, seval, ↓reduceIte, decide_true, decide_false]; rfl) (by simp) (by rfl) ?_)
      rfl

end Go.Proofs.Ytahnnangdepkbaa
