/-
  Draws of series.
-/
import Derived.Test.YtccjfbfebgfgoaaDs
import Derived.Test.YtccjfbfebgfgoaaLe
import Derived.Test.YtccjfbfebgfgoaaLc
namespace Go.Proofs.Ytccjfbfebgfgoaa
open Go.RowKit
set_option linter.unusedSimpArgs false
set_option linter.unusedVariables false
set_option linter.unusedSectionVars false
set_option maxRecDepth 20000
-- Draws of series.
def d2n (l : List Int) (s : Int × Int) : Int := pickX l (nextS l (nextS l (nextS l (drawMS l s) 4) 6) 10) [nextX l (drawMS l s) 4, nextX l (nextS l (drawMS l s) 4) 6, nextX l (nextS l (nextS l (drawMS l s) 4) 6) 10]
def d2S (l : List Int) (s : Int × Int) : Int × Int := nextS l (nextS l (nextS l (nextS l (drawMS l s) 4) 6) 10) 3
def d2L (l : List Int) (s : Int × Int) : List Int := lsL l (drawM l s) (d2S l s) (2 + d2n l s).toNat
def d2T (l : List Int) (s : Int × Int) : Int × Int := lsS l (drawM l s) (d2S l s) (2 + d2n l s).toNat
theorem intL_sc (l : List Int) : (intL l).all T.scalar = true := by
  rw [List.all_eq_true]
  intro t ht
  simp only [intL, List.mem_map] at ht
  obtain ⟨x, _, rfl⟩ := ht
  rfl
theorem intL_tk (l : List Int) (k : Nat) : (intL l).take k = intL (l.take k) := by simp [intL]
theorem intL_app (a b : List Int) : intL a ++ intL b = intL (a ++ b) := by simp [intL]
theorem drawMS_ok {l : List Int} {s : Int × Int} (hS : Sok l s) : Sok l (drawMS l s) := nextS_ok (nextS_ok (nextS_ok hS _) _) _
theorem d2S_ok {l : List Int} {s : Int × Int} (hS : Sok l s) : Sok l (d2S l s) := nextS_ok (nextS_ok (nextS_ok (nextS_ok (drawMS_ok hS) _) _) _) _
theorem d2T_ok {l : List Int} {s : Int × Int} (hS : Sok l s) : Sok l (d2T l s) := lsS_ok (d2S_ok hS) _
theorem pick3 (l : List Int) (hB : Byt l) (s : Int × Int) (x y z lo hi : Int) (hx : lo ≤ x ∧ x ≤ hi) (hy : lo ≤ y ∧ y ≤ hi) (hz : lo ≤ z ∧ z ≤ hi) : lo ≤ pickX l s [x, y, z] ∧ pickX l s [x, y, z] ≤ hi := by
  have h1 := nextX_bound hB s 3
  have h2 := h1.2.1 (by decide)
  unfold pickX
  show lo ≤ [x, y, z].getD (nextX l s 3).toNat 0 ∧ _
  have : (nextX l s 3).toNat = 0 ∨ (nextX l s 3).toNat = 1 ∨ (nextX l s 3).toNat = 2 := by omega
  rcases this with e | e | e <;> rw [show (([x, y, z] : List Int).length : Int) = 3 from rfl, e] <;> simpa
theorem d2n_bound {l : List Int} (hB : Byt l) (s : Int × Int) : 0 ≤ d2n l s ∧ d2n l s ≤ 9 := by
  have h1 := nextX_bound hB (drawMS l s) 4
  have h2 := nextX_bound hB (nextS l (drawMS l s) 4) 6
  have h3 := nextX_bound hB (nextS l (nextS l (drawMS l s) 4) 6) 10
  have g1 := h1.2.1 (by decide)
  have g2 := h2.2.1 (by decide)
  have g3 := h3.2.1 (by decide)
  exact pick3 l hB _ _ _ _ 0 9 (by omega) (by omega) (by omega)
theorem d2L_length {l : List Int} (hB : Byt l) (s : Int × Int) : 2 ≤ (d2L l s).length ∧ (d2L l s).length ≤ 11 := by
  have := d2n_bound hB s
  rw [d2L, lsL_length]; omega
set_option maxHeartbeats 1000000 in
theorem c_spec_l02Draw (a : Option Addr) (c : Nat) (l : List Int) (hB : Byt l) (s : Int × Int) (hS : Sok l s)  : AFn Try.prog (5000000 + 141) [.str (.src a c l), .box 117 (.agg [.str (.raw a l.length c), .int .i64 s.1, .int .u64 s.2])] (.tup [.agg [.int .i64 (drawM l s), .sl true 2 (intL (d2L l s))], .box 117 (.agg [.str (.raw a l.length c), .int .i64 (d2T l s).1, .int .u64 (d2T l s).2])]) := by
  refine AFg.of' ttOk Try.func141 Try.ntmps141 (by rw [Try.results141]) (by rfl) (by rfl) (by simp) (by decide) (by decide) srcScalar srcScalar rfl (by simp only [go_sem, Nat.reduceAdd, ↓reduceIte]; rfl) mixed (fun C hP hM hC => ?_)
  have hb := d2n_bound hB s
  have q1 := drawMS_ok hS
  have q2 := nextS_ok q1 4
  have q3 := nextS_ok q2 6
  have q4 := nextS_ok q3 10
  (repeat (first | ((with_reducible refine rgn_cons rfl (fun K hK => ?_)); simp only [go_sem, seval, ↓reduceIte, decide_true, decide_false, show pickX l (nextS l (nextS l (nextS l (drawMS l s) 4) 6) 10) [nextX l (drawMS l s) 4, nextX l (nextS l (drawMS l s) 4) 6, nextX l (nextS l (nextS l (drawMS l s) 4) 6) 10] = d2n l s from rfl, wid (2 + d2n l s) (by omega) (by omega)]; (first | refine hK _ _ _ (by simp only [go_sem, Nat.reduceEqDiff, ↓reduceIte]; rfl) ?_ | refine ⟨_, c_spec_l01DrawModulus a c l hB s hS, hK _ _ _ (by simp only [go_sem, Nat.reduceEqDiff, ↓reduceIte]; rfl) ?_⟩ | refine ⟨_, c_spec_l01Next a c l hB (drawMS l s) q1 4, hK _ _ _ (by simp only [go_sem, Nat.reduceEqDiff, ↓reduceIte]; rfl) ?_⟩ | refine ⟨_, c_spec_l01Next a c l hB _ q2 6, hK _ _ _ (by simp only [go_sem, Nat.reduceEqDiff, ↓reduceIte]; rfl) ?_⟩ | refine ⟨_, c_spec_l01Next a c l hB _ q3 10, hK _ _ _ (by simp only [go_sem, Nat.reduceEqDiff, ↓reduceIte]; rfl) ?_⟩ | refine ⟨_, c_spec_l01Pick a c l hB _ q4 [nextX l (drawMS l s) 4, nextX l (nextS l (drawMS l s) 4) 6, nextX l (nextS l (nextS l (drawMS l s) 4) 6) 10] (by simp) (by simp), hK _ _ _ (by simp only [go_sem, Nat.reduceEqDiff, ↓reduceIte]; rfl) ?_⟩ | refine ⟨_, c_spec_l01List a c l hB (d2S l s) (d2S_ok hS) (drawM l s) (2 + d2n l s) (by omega), hK _ _ _ (by simp only [go_sem, Nat.reduceEqDiff, ↓reduceIte]; rfl) ?_⟩ | refine ⟨_, c_spec_l02Make _ _, hK _ _ _ (by simp only [go_sem, Nat.reduceEqDiff, ↓reduceIte]; rfl) ?_⟩); clear hK; clear K) | (with_reducible first | refine rgn_nil (by first | trivial | kernel_rfl) ?_ | refine AWP.seq ?_ | refine tX hC hP (by kernel_rfl) ?_ | refine aX hC hM hP (by kernel_rfl) ?_ | refine AWP.skip ?_ | refine AWP.label ?_ | refine AWP.exit ?_ | refine AWP.block ?_ | refine cT (by simp only [go_sem, Nat.reduceEqDiff, ↓reduceIte]; with_reducible rfl) ?_ | refine cF (by simp only [go_sem, Nat.reduceEqDiff, ↓reduceIte]; with_reducible rfl) ?_) | simp only [qS, Nat.reduceEqDiff, ↓reduceIte]))
  (refine AWP.ret ?_; refine retG1 (by simp only [go_sem, seval, ↓reduceIte, decide_true, decide_false]; rfl) (by simp) (by rfl) ?_)
  rfl
theorem c_spec_l02Like (a : Option Addr) (c : Nat) (l : List Int) (hB : Byt l) (s : Int × Int) (hS : Sok l s) (m : Int) (la : List Int) (hla : la.length ≤ 1000000) : AFn Try.prog (5000000 + 93) [.str (.src a c l), .box 117 (.agg [.str (.raw a l.length c), .int .i64 s.1, .int .u64 s.2]), .agg [.int .i64 m, .sl false 2 (intL la)]] (.tup [.agg [.int .i64 m, .sl true 2 (intL (lsL l m s la.length))], .box 117 (.agg [.str (.raw a l.length c), .int .i64 (lsS l m s la.length).1, .int .u64 (lsS l m s la.length).2])]) := by
  refine AFg.of' ttOk Try.func93 Try.ntmps93 (by rw [Try.results93]) (by rfl) (by rfl) (by simp) (by decide) (by decide) srcScalar srcScalar rfl (by simp only [go_sem, Nat.reduceAdd, ↓reduceIte]; rfl) mixed (fun C hP hM hC => ?_)
  have := c_spec_l01List a c l hB s hS m (la.length : Int) (by omega)
  simp only [Int.toNat_natCast] at this
  (repeat (first | ((with_reducible refine rgn_cons rfl (fun K hK => ?_)); simp only [go_sem, seval, ↓reduceIte, decide_true, decide_false]; (first | refine hK _ _ _ (by simp only [go_sem, Nat.reduceEqDiff, ↓reduceIte]; rfl) ?_ | refine ⟨_, this, hK _ _ _ (by simp only [go_sem, Nat.reduceEqDiff, ↓reduceIte]; rfl) ?_⟩ | refine ⟨_, c_spec_l02Make _ _, hK _ _ _ (by simp only [go_sem, Nat.reduceEqDiff, ↓reduceIte]; rfl) ?_⟩); clear hK; clear K) | (with_reducible first | refine rgn_nil (by first | trivial | kernel_rfl) ?_ | refine AWP.seq ?_ | refine tX hC hP (by kernel_rfl) ?_ | refine aX hC hM hP (by kernel_rfl) ?_ | refine AWP.skip ?_ | refine AWP.label ?_ | refine AWP.exit ?_ | refine AWP.block ?_ | refine cT (by simp only [go_sem, Nat.reduceEqDiff, ↓reduceIte]; with_reducible rfl) ?_ | refine cF (by simp only [go_sem, Nat.reduceEqDiff, ↓reduceIte]; with_reducible rfl) ?_) | simp only [qS, Nat.reduceEqDiff, ↓reduceIte]))
  (refine AWP.ret ?_; refine retG1 (by simp only [go_sem, seval, ↓reduceIte, decide_true, decide_false]; rfl) (by simp) (by rfl) ?_)
  rfl
set_option maxHeartbeats 1000000 in
theorem c_spec_l02Spoil_a (a : Option Addr) (c : Nat) (l : List Int) (hB : Byt l) (s : Int × Int) (hS : Sok l s) (h : nextX l (d2T l s) 30 = 0) : AFn Try.prog (5000000 + 123) [.str (.src a c l), .box 117 (.agg [.str (.raw a l.length c), .int .i64 s.1, .int .u64 s.2])] (.tup [.agg [.int .i64 (pickX l (nextS l (d2T l s) 30) [0, 1, 10001, 2]), .sl true 2 (intL (d2L l s))], .box 117 (.agg [.str (.raw a l.length c), .int .i64 (nextS l (nextS l (d2T l s) 30) 4).1, .int .u64 (nextS l (nextS l (d2T l s) 30) 4).2])]) := by
  refine AFg.of' ttOk Try.func123 Try.ntmps123 (by rw [Try.results123]) (by rfl) (by rfl) (by simp) (by decide) (by decide) srcScalar srcScalar rfl (by simp only [go_sem, Nat.reduceAdd, ↓reduceIte]; rfl) mixed (fun C hP hM hC => ?_)
  have q1 := d2T_ok hS
  have q2 := nextS_ok q1 30
  (repeat (first | ((with_reducible refine rgn_cons rfl (fun K hK => ?_)); simp only [go_sem, seval, ↓reduceIte, decide_true, decide_false, h]; (first | refine hK _ _ _ (by simp only [go_sem, Nat.reduceEqDiff, ↓reduceIte]; rfl) ?_ | refine ⟨_, c_spec_l02Draw a c l hB s hS, hK _ _ _ (by simp only [go_sem, Nat.reduceEqDiff, ↓reduceIte]; rfl) ?_⟩ | refine ⟨_, c_spec_l01Next a c l hB _ q1 30, hK _ _ _ (by simp only [go_sem, Nat.reduceEqDiff, ↓reduceIte]; rfl) ?_⟩ | refine ⟨_, c_spec_l01Pick a c l hB _ q2 [0, 1, 10001, 2] (by simp) (by simp), hK _ _ _ (by simp only [go_sem, Nat.reduceEqDiff, ↓reduceIte]; rfl) ?_⟩); clear hK; clear K) | (with_reducible first | refine rgn_nil (by first | trivial | kernel_rfl) ?_ | refine AWP.seq ?_ | refine tX hC hP (by kernel_rfl) ?_ | refine aX hC hM hP (by kernel_rfl) ?_ | refine AWP.skip ?_ | refine AWP.label ?_ | refine AWP.exit ?_ | refine AWP.block ?_ | refine cT (by simp only [go_sem, Nat.reduceEqDiff, ↓reduceIte]; with_reducible rfl) ?_ | refine cF (by simp only [go_sem, Nat.reduceEqDiff, ↓reduceIte]; with_reducible rfl) ?_) | simp only [qS, Nat.reduceEqDiff, ↓reduceIte]))
  (refine AWP.ret ?_; refine retG1 (by simp only [go_sem, seval, ↓reduceIte, decide_true, decide_false]; rfl) (by simp) (by rfl) ?_)
  rfl
set_option maxHeartbeats 1000000 in
theorem c_spec_l02Spoil_b (a : Option Addr) (c : Nat) (l : List Int) (hB : Byt l) (s : Int × Int) (hS : Sok l s) (h : nextX l (d2T l s) 30 = 1) : AFn Try.prog (5000000 + 123) [.str (.src a c l), .box 117 (.agg [.str (.raw a l.length c), .int .i64 s.1, .int .u64 s.2])] (.tup [.agg [.int .i64 (drawM l s), .sl true 2 (intL ((d2L l s).take 1))], .box 117 (.agg [.str (.raw a l.length c), .int .i64 (nextS l (d2T l s) 30).1, .int .u64 (nextS l (d2T l s) 30).2])]) := by
  refine AFg.of' ttOk Try.func123 Try.ntmps123 (by rw [Try.results123]) (by rfl) (by rfl) (by simp) (by decide) (by decide) srcScalar srcScalar rfl (by simp only [go_sem, Nat.reduceAdd, ↓reduceIte]; rfl) mixed (fun C hP hM hC => ?_)
  have q1 := d2T_ok hS
  have hl := d2L_length hB s
  (repeat (first | ((with_reducible refine rgn_cons rfl (fun K hK => ?_)); simp only [go_sem, seval, ↓reduceIte, decide_true, decide_false, h, show ((1 : Int) == 0) = false from rfl, show (1 : Int) ≤ ((d2L l s).length : Int) by omega, intL_sc, intL_tk]; (first | refine hK _ _ _ (by simp only [go_sem, Nat.reduceEqDiff, ↓reduceIte]; rfl) ?_ | refine ⟨_, c_spec_l02Draw a c l hB s hS, hK _ _ _ (by simp only [go_sem, Nat.reduceEqDiff, ↓reduceIte]; rfl) ?_⟩ | refine ⟨_, c_spec_l01Next a c l hB _ q1 30, hK _ _ _ (by simp only [go_sem, Nat.reduceEqDiff, ↓reduceIte]; rfl) ?_⟩); clear hK; clear K) | (with_reducible first | refine rgn_nil (by first | trivial | kernel_rfl) ?_ | refine AWP.seq ?_ | refine tX hC hP (by kernel_rfl) ?_ | refine aX hC hM hP (by kernel_rfl) ?_ | refine AWP.skip ?_ | refine AWP.label ?_ | refine AWP.exit ?_ | refine AWP.block ?_ | refine cT (by simp only [go_sem, Nat.reduceEqDiff, ↓reduceIte]; with_reducible rfl) ?_ | refine cF (by simp only [go_sem, Nat.reduceEqDiff, ↓reduceIte]; with_reducible rfl) ?_) | simp only [qS, Nat.reduceEqDiff, ↓reduceIte]))
  (refine AWP.ret ?_; refine retG1 (by simp only [go_sem, seval, ↓reduceIte, decide_true, decide_false]; rfl) (by simp) (by rfl) ?_)
  rfl
set_option maxHeartbeats 1000000 in
theorem c_spec_l02Spoil_c (a : Option Addr) (c : Nat) (l : List Int) (hB : Byt l) (s : Int × Int) (hS : Sok l s) (h : nextX l (d2T l s) 30 = 2) : AFn Try.prog (5000000 + 123) [.str (.src a c l), .box 117 (.agg [.str (.raw a l.length c), .int .i64 s.1, .int .u64 s.2])] (.tup [.agg [.int .i64 (drawM l s), .sl true 2 (intL (d2L l s ++ List.replicate 10 0))], .box 117 (.agg [.str (.raw a l.length c), .int .i64 (nextS l (d2T l s) 30).1, .int .u64 (nextS l (d2T l s) 30).2])]) := by
  refine AFg.of' ttOk Try.func123 Try.ntmps123 (by rw [Try.results123]) (by rfl) (by rfl) (by simp) (by decide) (by decide) srcScalar srcScalar rfl (by simp only [go_sem, Nat.reduceAdd, ↓reduceIte]; rfl) mixed (fun C hP hM hC => ?_)
  have q1 := d2T_ok hS
  have hl := d2L_length hB s
  (repeat (first | ((with_reducible refine rgn_cons rfl (fun K hK => ?_)); simp only [go_sem, seval, ↓reduceIte, decide_true, decide_false, h, show ((2 : Int) == 0) = false from rfl, show ((2 : Int) == 1) = false from rfl, intL_sc, intL_replicate, intL_app, show (d2L l s).length ≤ 1099511627766 by omega, show ((d2L l s).length + 10) * 8 ≤ 140737488355328 by omega]; (first | refine hK _ _ _ (by simp only [go_sem, Nat.reduceEqDiff, ↓reduceIte]; rfl) ?_ | refine ⟨_, c_spec_l02Draw a c l hB s hS, hK _ _ _ (by simp only [go_sem, Nat.reduceEqDiff, ↓reduceIte]; rfl) ?_⟩ | refine ⟨_, c_spec_l01Next a c l hB _ q1 30, hK _ _ _ (by simp only [go_sem, Nat.reduceEqDiff, ↓reduceIte]; rfl) ?_⟩); clear hK; clear K) | (with_reducible first | refine rgn_nil (by first | trivial | kernel_rfl) ?_ | refine AWP.seq ?_ | refine tX hC hP (by kernel_rfl) ?_ | refine aX hC hM hP (by kernel_rfl) ?_ | refine AWP.skip ?_ | refine AWP.label ?_ | refine AWP.exit ?_ | refine AWP.block ?_ | refine cT (by simp only [go_sem, Nat.reduceEqDiff, ↓reduceIte]; with_reducible rfl) ?_ | refine cF (by simp only [go_sem, Nat.reduceEqDiff, ↓reduceIte]; with_reducible rfl) ?_) | simp only [qS, Nat.reduceEqDiff, ↓reduceIte]))
  (refine AWP.ret ?_; refine retG1 (by simp only [go_sem, seval, ↓reduceIte, decide_true, decide_false]; rfl) (by simp) (by rfl) ?_)
  rfl
set_option maxHeartbeats 1000000 in
theorem c_spec_l02Spoil_d (a : Option Addr) (c : Nat) (l : List Int) (hB : Byt l) (s : Int × Int) (hS : Sok l s) (h : nextX l (d2T l s) 30 = 3) : AFn Try.prog (5000000 + 123) [.str (.src a c l), .box 117 (.agg [.str (.raw a l.length c), .int .i64 s.1, .int .u64 s.2])] (.tup [.agg [.int .i64 (drawM l s), .sl true 2 (intL ((d2L l s).set 0 (pickX l (nextS l (d2T l s) 30) [-1, drawM l s, 1099511627776])))], .box 117 (.agg [.str (.raw a l.length c), .int .i64 (nextS l (nextS l (d2T l s) 30) 3).1, .int .u64 (nextS l (nextS l (d2T l s) 30) 3).2])]) := by
  refine AFg.of' ttOk Try.func123 Try.ntmps123 (by rw [Try.results123]) (by rfl) (by rfl) (by simp) (by decide) (by decide) srcScalar srcScalar rfl (by simp only [go_sem, Nat.reduceAdd, ↓reduceIte]; rfl) mixed (fun C hP hM hC => ?_)
  have q1 := d2T_ok hS
  have q2 := nextS_ok q1 30
  have hl := d2L_length hB s
  (repeat (first | ((with_reducible refine rgn_cons rfl (fun K hK => ?_)); simp only [go_sem, seval, ↓reduceIte, decide_true, decide_false, h, show ((3 : Int) == 0) = false from rfl, show ((3 : Int) == 1) = false from rfl, show ((3 : Int) == 2) = false from rfl, show (0 : Int) < ((d2L l s).length : Int) by omega, Int.le_refl, Int.toNat_zero, List.take_zero, Nat.zero_mul, intL_get _ 0 (show 0 < (d2L l s).length by omega), intL_modify]; (first | refine hK _ _ _ (by simp only [go_sem, Nat.reduceEqDiff, ↓reduceIte]; rfl) ?_ | refine ⟨_, c_spec_l02Draw a c l hB s hS, hK _ _ _ (by simp only [go_sem, Nat.reduceEqDiff, ↓reduceIte]; rfl) ?_⟩ | refine ⟨_, c_spec_l01Next a c l hB _ q1 30, hK _ _ _ (by simp only [go_sem, Nat.reduceEqDiff, ↓reduceIte]; rfl) ?_⟩ | refine ⟨_, c_spec_l01Pick a c l hB _ q2 [-1, drawM l s, 1099511627776] (by simp) (by simp), hK _ _ _ (by simp only [go_sem, Nat.reduceEqDiff, ↓reduceIte]; rfl) ?_⟩); clear hK; clear K) | (with_reducible first | refine rgn_nil (by first | trivial | kernel_rfl) ?_ | refine AWP.seq ?_ | refine tX hC hP (by kernel_rfl) ?_ | refine aX hC hM hP (by kernel_rfl) ?_ | refine AWP.skip ?_ | refine AWP.label ?_ | refine AWP.exit ?_ | refine AWP.block ?_ | refine cT (by simp only [go_sem, Nat.reduceEqDiff, ↓reduceIte]; with_reducible rfl) ?_ | refine cF (by simp only [go_sem, Nat.reduceEqDiff, ↓reduceIte]; with_reducible rfl) ?_) | simp only [qS, Nat.reduceEqDiff, ↓reduceIte]))
  (refine AWP.ret ?_; refine retG1 (by simp only [go_sem, seval, ↓reduceIte, decide_true, decide_false]; rfl) (by simp) (by rfl) ?_)
  rfl
set_option maxHeartbeats 1000000 in
theorem c_spec_l02Spoil_e (a : Option Addr) (c : Nat) (l : List Int) (hB : Byt l) (s : Int × Int) (hS : Sok l s) (h0 : ¬ nextX l (d2T l s) 30 = 0) (h1 : ¬ nextX l (d2T l s) 30 = 1) (h2 : ¬ nextX l (d2T l s) 30 = 2) (h3 : ¬ nextX l (d2T l s) 30 = 3) : AFn Try.prog (5000000 + 123) [.str (.src a c l), .box 117 (.agg [.str (.raw a l.length c), .int .i64 s.1, .int .u64 s.2])] (.tup [.agg [.int .i64 (drawM l s), .sl true 2 (intL (d2L l s))], .box 117 (.agg [.str (.raw a l.length c), .int .i64 (nextS l (d2T l s) 30).1, .int .u64 (nextS l (d2T l s) 30).2])]) := by
  refine AFg.of' ttOk Try.func123 Try.ntmps123 (by rw [Try.results123]) (by rfl) (by rfl) (by simp) (by decide) (by decide) srcScalar srcScalar rfl (by simp only [go_sem, Nat.reduceAdd, ↓reduceIte]; rfl) mixed (fun C hP hM hC => ?_)
  have q1 := d2T_ok hS
  (repeat (first | ((with_reducible refine rgn_cons rfl (fun K hK => ?_)); simp only [go_sem, seval, ↓reduceIte, decide_true, decide_false, beqF h0, beqF h1, beqF h2, beqF h3]; (first | refine hK _ _ _ (by simp only [go_sem, Nat.reduceEqDiff, ↓reduceIte]; rfl) ?_ | refine ⟨_, c_spec_l02Draw a c l hB s hS, hK _ _ _ (by simp only [go_sem, Nat.reduceEqDiff, ↓reduceIte]; rfl) ?_⟩ | refine ⟨_, c_spec_l01Next a c l hB _ q1 30, hK _ _ _ (by simp only [go_sem, Nat.reduceEqDiff, ↓reduceIte]; rfl) ?_⟩); clear hK; clear K) | (with_reducible first | refine rgn_nil (by first | trivial | kernel_rfl) ?_ | refine AWP.seq ?_ | refine tX hC hP (by kernel_rfl) ?_ | refine aX hC hM hP (by kernel_rfl) ?_ | refine AWP.skip ?_ | refine AWP.label ?_ | refine AWP.exit ?_ | refine AWP.block ?_ | refine cT (by simp only [go_sem, Nat.reduceEqDiff, ↓reduceIte]; with_reducible rfl) ?_ | refine cF (by simp only [go_sem, Nat.reduceEqDiff, ↓reduceIte]; with_reducible rfl) ?_) | simp only [qS, Nat.reduceEqDiff, ↓reduceIte]))
  (refine AWP.ret ?_; refine retG1 (by simp only [go_sem, seval, ↓reduceIte, decide_true, decide_false]; rfl) (by simp) (by rfl) ?_)
  rfl
/-- What stands behind a source. -/
abbrev SRC (a : Option Addr) (c : Nat) (l : List Int) (s : Int × Int) : T := .box 117 (.agg [.str (.raw a l.length c), .int .i64 s.1, .int .u64 s.2])
theorem l02Spoil_ex {a : Option Addr} {c : Nat} {l : List Int} (hB : Byt l) {s : Int × Int} (hS : Sok l s) : ∃ m la s', Sok l s' ∧ la.length ≤ 100 ∧ AFn Try.prog (5000000 + 123) [.str (.src a c l), SRC a c l s] (.tup [.agg [.int .i64 m, .sl true 2 (intL la)], SRC a c l s']) := by
  have hl := d2L_length hB s
  by_cases h0 : nextX l (d2T l s) 30 = 0
  · exact ⟨_, _, _, nextS_ok (nextS_ok (d2T_ok hS) 30) 4, by omega, c_spec_l02Spoil_a a c l hB s hS h0⟩
  by_cases h1 : nextX l (d2T l s) 30 = 1
  · exact ⟨_, _, _, nextS_ok (d2T_ok hS) 30, by rw [List.length_take]; omega, c_spec_l02Spoil_b a c l hB s hS h1⟩
  by_cases h2 : nextX l (d2T l s) 30 = 2
  · exact ⟨_, _, _, nextS_ok (d2T_ok hS) 30, by rw [List.length_append, List.length_replicate]; omega, c_spec_l02Spoil_c a c l hB s hS h2⟩
  by_cases h3 : nextX l (d2T l s) 30 = 3
  · exact ⟨_, _, _, nextS_ok (nextS_ok (d2T_ok hS) 30) 3, by rw [List.length_set]; omega, c_spec_l02Spoil_d a c l hB s hS h3⟩
  · exact ⟨_, _, _, nextS_ok (d2T_ok hS) 30, by omega, c_spec_l02Spoil_e a c l hB s hS h0 h1 h2 h3⟩
end Go.Proofs.Ytccjfbfebgfgoaa
