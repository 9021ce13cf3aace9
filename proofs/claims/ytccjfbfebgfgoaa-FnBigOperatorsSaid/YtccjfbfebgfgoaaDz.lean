/-
  Draws for operators of big vectors.
-/
import Derived.Test.YtccjfbfebgfgoaaDy
namespace Go.Proofs.Ytccjfbfebgfgoaa
open Go.RowKit
set_option linter.unusedSimpArgs false
set_option linter.unusedVariables false
set_option linter.unusedSectionVars false
set_option maxRecDepth 20000
-- Draws for operators of big vectors.
theorem l01Count_ex {a : Option Addr} {c : Nat} {l : List Int} (hB : Byt l) {s : Int × Int} (hS : Sok l s) (m : Int) (h0 : -1000000000000 ≤ m ∧ m ≤ 1000000000000) : ∃ x s', Sok l s' ∧ AFn Try.prog (5000000 + 78) [.str (.src a c l), SRC a c l s, .int .i64 m] (.tup [.int .i64 x, SRC a c l s']) := by
  by_cases h : nextX l s 14 = 0
  · exact ⟨_, _, nextS_ok (nextS_ok hS 14) 4, c_spec_l01Count_odd a c l hB s hS m h0 h⟩
  · exact ⟨_, _, nextS_ok (nextS_ok hS 14) (m + 1), c_spec_l01Count a c l hB s hS m h0 h⟩
theorem l01Spoil_ex {a : Option Addr} {c : Nat} {l : List Int} (hB : Byt l) {s : Int × Int} (hS : Sok l s) : ∃ x s', Sok l s' ∧ AFn Try.prog (5000000 + 88) [.str (.src a c l), SRC a c l s] (.tup [.int .i64 x, SRC a c l s']) := by
  by_cases h : nextX l s 20 = 0
  · exact ⟨_, _, nextS_ok (nextS_ok hS 20) 5, c_spec_l01Spoil_odd a c l hB s hS h⟩
  · exact ⟨_, _, drawMS_ok (nextS_ok hS 20), c_spec_l01Spoil a c l hB s hS h⟩
theorem l01Number_ex {a : Option Addr} {c : Nat} {l : List Int} (hB : Byt l) {s : Int × Int} (hS : Sok l s) (m : Int) : ∃ x s', Sok l s' ∧ AFn Try.prog (5000000 + 90) [.str (.src a c l), SRC a c l s, .int .i64 m] (.tup [.int .i64 x, SRC a c l s']) := by
  by_cases h : nextX l s 24 = 0
  · exact ⟨_, _, nextS_ok (nextS_ok hS 24) 4, c_spec_l01Number_odd a c l hB s hS m h⟩
  · exact ⟨_, _, nextS_ok (nextS_ok hS 24) m, c_spec_l01Number a c l hB s hS m h⟩
set_option maxHeartbeats 1000000 in
theorem c_spec_DrawFrobeniusOfBig (a : Option Addr) (c : Nat) (l : List Int) (hB : Byt l) (m1 : Int) (l1 : List Int) (s1 s2 : Int × Int) (x2 : Int) (hS1 : Sok l s1) (hS2 : Sok l s2) (hl : l1.length ≤ 100) (hC1 : AFn Try.prog (5000000 + 75) [.str (.src a c l), SRC a c l (from0 l)] (.tup [.agg [.int .i64 m1, .sl true 2 (intL l1)], SRC a c l s1])) (hC2 : AFn Try.prog (5000000 + 78) [.str (.src a c l), SRC a c l (nextS l s1 3), .int .i64 10] (.tup [.int .i64 x2, SRC a c l s2])) : AFn Try.prog 28 [.str (.src a c l)] (.tup [.agg [.int .i64 m1, .sl true 2 (intL l1)], .int .i64 (pickX l (nextS l s2 l1.length) [1 + nextX l s1 3, x2, 1 + nextX l s2 l1.length])]) := by
  refine AFn.of' ttOk (by decide) Try.func28 Try.ntmps28 (by rw [Try.results28]) (by rfl) (by rfl) (by simp) (by decide) (by simp only [go_sem, Nat.reduceAdd, ↓reduceIte]; rfl) mixed (fun C hP hM hC => ?_)
  have n1 := nextX_bound hB s1 3
  have n2 := nextX_bound hB s2 l1.length
  have n3 := n1.2.1 (by decide)
  have n4 : nextX l s2 l1.length ≤ 100 := by
    by_cases h : 1 ≤ (l1.length : Int)
    · have := n2.2.1 h; omega
    · have := n2.2.2 (by omega); omega
  refine AWP.ghost (t := 0) rfl rfl ?_
  (repeat (first | ((with_reducible refine rgn_cons rfl (fun K hK => ?_)); simp only [go_sem, seval, ↓reduceIte, decide_true, decide_false, wid (1 + nextX l s1 3) (by omega) (by omega), wid (1 + nextX l s2 l1.length) (by omega) (by omega)]; (first | refine hK _ _ _ (by simp only [go_sem, Nat.reduceEqDiff, ↓reduceIte]; rfl) ?_ | refine ⟨_, c_spec_l01From a c l hB, hK _ _ _ (by simp only [go_sem, Nat.reduceEqDiff, ↓reduceIte]; rfl) ?_⟩ | refine ⟨_, hC1, hK _ _ _ (by simp only [go_sem, Nat.reduceEqDiff, ↓reduceIte]; rfl) ?_⟩ | refine ⟨_, c_spec_l01Next a c l hB s1 hS1 3, hK _ _ _ (by simp only [go_sem, Nat.reduceEqDiff, ↓reduceIte]; rfl) ?_⟩ | refine ⟨_, hC2, hK _ _ _ (by simp only [go_sem, Nat.reduceEqDiff, ↓reduceIte]; rfl) ?_⟩ | refine ⟨_, c_spec_l01Next a c l hB s2 hS2 l1.length, hK _ _ _ (by simp only [go_sem, Nat.reduceEqDiff, ↓reduceIte]; rfl) ?_⟩ | refine ⟨_, c_spec_l01Pick a c l hB (nextS l s2 l1.length) (nextS_ok hS2 _) [1 + nextX l s1 3, x2, 1 + nextX l s2 l1.length] (by simp) (by simp), hK _ _ _ (by simp only [go_sem, Nat.reduceEqDiff, ↓reduceIte]; rfl) ?_⟩); clear hK; clear K) | (with_reducible first | refine rgn_nil (by first | trivial | kernel_rfl) ?_ | refine AWP.seq ?_ | refine tX hC hP (by kernel_rfl) ?_ | refine aX hC hM hP (by kernel_rfl) ?_ | refine AWP.skip ?_ | refine AWP.label ?_ | refine AWP.exit ?_ | refine AWP.block ?_ | refine cT (by simp only [go_sem, Nat.reduceEqDiff, ↓reduceIte]; with_reducible rfl) ?_ | refine cF (by simp only [go_sem, Nat.reduceEqDiff, ↓reduceIte]; with_reducible rfl) ?_) | simp only [qS, Nat.reduceEqDiff, ↓reduceIte]))
  (refine AWP.ret ?_; first | refine retOk1 (by simp only [go_sem, seval, ↓reduceIte, decide_true, decide_false]; rfl) ?_ | refine retOk2 (by simp only [go_sem, seval, ↓reduceIte, decide_true, decide_false]; rfl) (by simp only [go_sem, seval, ↓reduceIte, decide_true, decide_false]; rfl) (by simp) ?_ | refine retOk3 (by simp only [go_sem, seval, ↓reduceIte, decide_true, decide_false]; rfl) (by simp only [go_sem, seval, ↓reduceIte, decide_true, decide_false]; rfl) (by simp only [go_sem, seval, ↓reduceIte, decide_true, decide_false]; rfl) (by simp) ?_)
  rfl
theorem DrawFrobeniusOfBig_ex {a : Option Addr} {c : Nat} {l : List Int} (hB : Byt l) : ∃ m la n, la.length ≤ 100 ∧ AFn Try.prog 28 [.str (.src a c l)] (.tup [.agg [.int .i64 m, .sl true 2 (intL la)], .int .i64 n]) := by
  obtain ⟨m1, l1, s1, hS1, hl1, hC1⟩ := l14Draw_ex (a := a) (c := c) hB (from0_ok l)
  obtain ⟨x2, s2, hS2, hC2⟩ := l01Count_ex (a := a) (c := c) hB (nextS_ok hS1 3) 10 (by decide)
  exact ⟨_, _, _, hl1, c_spec_DrawFrobeniusOfBig a c l hB m1 l1 s1 s2 x2 hS1 hS2 hl1 hC1 hC2⟩
theorem c_spec_DrawCoordinatesOfBig (a : Option Addr) (c : Nat) (l : List Int) (hB : Byt l) (m1 : Int) (l1 : List Int) (s1 : Int × Int) (hC1 : AFn Try.prog (5000000 + 75) [.str (.src a c l), SRC a c l (from0 l)] (.tup [.agg [.int .i64 m1, .sl true 2 (intL l1)], SRC a c l s1])) : AFn Try.prog 31 [.str (.src a c l)] (.agg [.int .i64 m1, .sl true 2 (intL l1)]) := by
  refine AFn.of' ttOk (by decide) Try.func31 Try.ntmps31 (by rw [Try.results31]) (by rfl) (by rfl) (by simp) (by decide) (by simp only [go_sem, Nat.reduceAdd, ↓reduceIte]; rfl) mixed (fun C hP hM hC => ?_)
  refine AWP.ghost (t := 0) rfl rfl ?_
  (repeat (first | ((with_reducible refine rgn_cons rfl (fun K hK => ?_)); simp only [go_sem, seval, ↓reduceIte, decide_true, decide_false]; (first | refine hK _ _ _ (by simp only [go_sem, Nat.reduceEqDiff, ↓reduceIte]; rfl) ?_ | refine ⟨_, c_spec_l01From a c l hB, hK _ _ _ (by simp only [go_sem, Nat.reduceEqDiff, ↓reduceIte]; rfl) ?_⟩ | refine ⟨_, hC1, hK _ _ _ (by simp only [go_sem, Nat.reduceEqDiff, ↓reduceIte]; rfl) ?_⟩); clear hK; clear K) | (with_reducible first | refine rgn_nil (by first | trivial | kernel_rfl) ?_ | refine AWP.seq ?_ | refine tX hC hP (by kernel_rfl) ?_ | refine aX hC hM hP (by kernel_rfl) ?_ | refine AWP.skip ?_ | refine AWP.label ?_ | refine AWP.exit ?_ | refine AWP.block ?_ | refine cT (by simp only [go_sem, Nat.reduceEqDiff, ↓reduceIte]; with_reducible rfl) ?_ | refine cF (by simp only [go_sem, Nat.reduceEqDiff, ↓reduceIte]; with_reducible rfl) ?_) | simp only [qS, Nat.reduceEqDiff, ↓reduceIte]))
  (refine AWP.ret ?_; first | refine retOk1 (by simp only [go_sem, seval, ↓reduceIte, decide_true, decide_false]; rfl) ?_ | refine retOk2 (by simp only [go_sem, seval, ↓reduceIte, decide_true, decide_false]; rfl) (by simp only [go_sem, seval, ↓reduceIte, decide_true, decide_false]; rfl) (by simp) ?_ | refine retOk3 (by simp only [go_sem, seval, ↓reduceIte, decide_true, decide_false]; rfl) (by simp only [go_sem, seval, ↓reduceIte, decide_true, decide_false]; rfl) (by simp only [go_sem, seval, ↓reduceIte, decide_true, decide_false]; rfl) (by simp) ?_)
  rfl
theorem DrawCoordinatesOfBig_ex {a : Option Addr} {c : Nat} {l : List Int} (hB : Byt l) : ∃ m la, la.length ≤ 100 ∧ AFn Try.prog 31 [.str (.src a c l)] (.agg [.int .i64 m, .sl true 2 (intL la)]) := by
  obtain ⟨m1, l1, s1, hS1, hl1, hC1⟩ := l14Draw_ex (a := a) (c := c) hB (from0_ok l)
  exact ⟨_, _, hl1, c_spec_DrawCoordinatesOfBig a c l hB m1 l1 s1 hC1⟩
set_option maxHeartbeats 1000000 in
theorem c_spec_DrawPowerOfBig (a : Option Addr) (c : Nat) (l : List Int) (hB : Byt l) (m1 : Int) (l1 : List Int) (s1 s2 : Int × Int) (x2 : Int) (hS1 : Sok l s1) (hS2 : Sok l s2) (hC1 : AFn Try.prog (5000000 + 75) [.str (.src a c l), SRC a c l (from0 l)] (.tup [.agg [.int .i64 m1, .sl true 2 (intL l1)], SRC a c l s1])) (hC2 : AFn Try.prog (5000000 + 78) [.str (.src a c l), SRC a c l (nextS l s1 4), .int .i64 20] (.tup [.int .i64 x2, SRC a c l s2])) : AFn Try.prog 38 [.str (.src a c l)] (.tup [.agg [.int .i64 m1, .sl true 2 (intL l1)], .int .i64 (pickX l s2 [nextX l s1 4, x2])]) := by
  refine AFn.of' ttOk (by decide) Try.func38 Try.ntmps38 (by rw [Try.results38]) (by rfl) (by rfl) (by simp) (by decide) (by simp only [go_sem, Nat.reduceAdd, ↓reduceIte]; rfl) mixed (fun C hP hM hC => ?_)
  refine AWP.ghost (t := 0) rfl rfl ?_
  (repeat (first | ((with_reducible refine rgn_cons rfl (fun K hK => ?_)); simp only [go_sem, seval, ↓reduceIte, decide_true, decide_false]; (first | refine hK _ _ _ (by simp only [go_sem, Nat.reduceEqDiff, ↓reduceIte]; rfl) ?_ | refine ⟨_, c_spec_l01From a c l hB, hK _ _ _ (by simp only [go_sem, Nat.reduceEqDiff, ↓reduceIte]; rfl) ?_⟩ | refine ⟨_, hC1, hK _ _ _ (by simp only [go_sem, Nat.reduceEqDiff, ↓reduceIte]; rfl) ?_⟩ | refine ⟨_, c_spec_l01Next a c l hB s1 hS1 4, hK _ _ _ (by simp only [go_sem, Nat.reduceEqDiff, ↓reduceIte]; rfl) ?_⟩ | refine ⟨_, hC2, hK _ _ _ (by simp only [go_sem, Nat.reduceEqDiff, ↓reduceIte]; rfl) ?_⟩ | refine ⟨_, c_spec_l01Pick a c l hB s2 hS2 [nextX l s1 4, x2] (by simp) (by simp), hK _ _ _ (by simp only [go_sem, Nat.reduceEqDiff, ↓reduceIte]; rfl) ?_⟩); clear hK; clear K) | (with_reducible first | refine rgn_nil (by first | trivial | kernel_rfl) ?_ | refine AWP.seq ?_ | refine tX hC hP (by kernel_rfl) ?_ | refine aX hC hM hP (by kernel_rfl) ?_ | refine AWP.skip ?_ | refine AWP.label ?_ | refine AWP.exit ?_ | refine AWP.block ?_ | refine cT (by simp only [go_sem, Nat.reduceEqDiff, ↓reduceIte]; with_reducible rfl) ?_ | refine cF (by simp only [go_sem, Nat.reduceEqDiff, ↓reduceIte]; with_reducible rfl) ?_) | simp only [qS, Nat.reduceEqDiff, ↓reduceIte]))
  (refine AWP.ret ?_; first | refine retOk1 (by simp only [go_sem, seval, ↓reduceIte, decide_true, decide_false]; rfl) ?_ | refine retOk2 (by simp only [go_sem, seval, ↓reduceIte, decide_true, decide_false]; rfl) (by simp only [go_sem, seval, ↓reduceIte, decide_true, decide_false]; rfl) (by simp) ?_ | refine retOk3 (by simp only [go_sem, seval, ↓reduceIte, decide_true, decide_false]; rfl) (by simp only [go_sem, seval, ↓reduceIte, decide_true, decide_false]; rfl) (by simp only [go_sem, seval, ↓reduceIte, decide_true, decide_false]; rfl) (by simp) ?_)
  rfl
theorem DrawPowerOfBig_ex {a : Option Addr} {c : Nat} {l : List Int} (hB : Byt l) : ∃ m la n, la.length ≤ 100 ∧ AFn Try.prog 38 [.str (.src a c l)] (.tup [.agg [.int .i64 m, .sl true 2 (intL la)], .int .i64 n]) := by
  obtain ⟨m1, l1, s1, hS1, hl1, hC1⟩ := l14Draw_ex (a := a) (c := c) hB (from0_ok l)
  obtain ⟨x2, s2, hS2, hC2⟩ := l01Count_ex (a := a) (c := c) hB (nextS_ok hS1 4) 20 (by decide)
  exact ⟨_, _, _, hl1, c_spec_DrawPowerOfBig a c l hB m1 l1 s1 s2 x2 hS1 hS2 hC1 hC2⟩
/-- How many coordinates. -/
def bcN (l : List Int) (s : Int × Int) : Int := pickX l (nextS l (nextS l s 4) 10) [1 + nextX l s 4, 1 + nextX l (nextS l s 4) 10, 0, 11]
theorem pick4 (l : List Int) (hB : Byt l) (s : Int × Int) (x y z w lo hi : Int) (hx : lo ≤ x ∧ x ≤ hi) (hy : lo ≤ y ∧ y ≤ hi) (hz : lo ≤ z ∧ z ≤ hi) (hw : lo ≤ w ∧ w ≤ hi) : lo ≤ pickX l s [x, y, z, w] ∧ pickX l s [x, y, z, w] ≤ hi := by
  have h1 := nextX_bound hB s 4
  have h2 := h1.2.1 (by decide)
  unfold pickX
  show lo ≤ [x, y, z, w].getD (nextX l s 4).toNat 0 ∧ _
  have : (nextX l s 4).toNat = 0 ∨ (nextX l s 4).toNat = 1 ∨ (nextX l s 4).toNat = 2 ∨ (nextX l s 4).toNat = 3 := by omega
  rcases this with e | e | e | e <;> rw [show (([x, y, z, w] : List Int).length : Int) = 4 from rfl, e] <;> simpa
theorem bcN_bound {l : List Int} (hB : Byt l) (s : Int × Int) : 0 ≤ bcN l s ∧ bcN l s ≤ 11 := by
  have h1 := nextX_bound hB s 4
  have h2 := nextX_bound hB (nextS l s 4) 10
  have g1 := h1.2.1 (by decide)
  have g2 := h2.2.1 (by decide)
  exact pick4 l hB _ _ _ _ _ 0 11 (by omega) (by omega) (by omega) (by omega)
/-- The list of coordinates, and the source behind it. -/
def bcL (l : List Int) (m : Int) (s : Int × Int) : List Int := lsL l m (nextS l (nextS l (nextS l s 4) 10) 4) (bcN l s).toNat
def bcS (l : List Int) (m : Int) (s : Int × Int) : Int × Int := lsS l m (nextS l (nextS l (nextS l s 4) 10) 4) (bcN l s).toNat
theorem bcL_length {l : List Int} (hB : Byt l) (m : Int) (s : Int × Int) : (bcL l m s).length ≤ 11 := by have := bcN_bound hB s; rw [bcL, lsL_length]; omega
theorem bcS_ok {l : List Int} {m : Int} {s : Int × Int} (hS : Sok l s) : Sok l (bcS l m s) := lsS_ok (nextS_ok (nextS_ok (nextS_ok hS _) _) _) _
set_option maxHeartbeats 1000000 in
theorem c_spec_DrawBigOfCoordinates_a (a : Option Addr) (c : Nat) (l : List Int) (hB : Byt l) (m : Int) (s1 s2 : Int × Int) (x2 : Int) (hS1 : Sok l s1) (hC1 : AFn Try.prog (5000000 + 88) [.str (.src a c l), SRC a c l (from0 l)] (.tup [.int .i64 m, SRC a c l s1])) (h0 : 0 < (bcL l m s1).length) (h : nextX l (bcS l m s1) 16 = 0) (hC2 : AFn Try.prog (5000000 + 90) [.str (.src a c l), SRC a c l (nextS l (bcS l m s1) 16), .int .i64 m] (.tup [.int .i64 x2, SRC a c l s2])) : AFn Try.prog 36 [.str (.src a c l)] (.tup [.int .i64 m, .sl true 2 (intL ((bcL l m s1).set 0 x2))]) := by
  refine AFn.of' ttOk (by decide) Try.func36 Try.ntmps36 (by rw [Try.results36]) (by rfl) (by rfl) (by simp) (by decide) (by simp only [go_sem, Nat.reduceAdd, ↓reduceIte]; rfl) mixed (fun C hP hM hC => ?_)
  have n1 := nextX_bound hB s1 4
  have n2 := nextX_bound hB (nextS l s1 4) 10
  have n3 := n1.2.1 (by decide)
  have n4 := n2.2.1 (by decide)
  have n5 := bcN_bound hB s1
  have q1 := nextS_ok hS1 4
  have q2 := nextS_ok q1 10
  have q3 := nextS_ok q2 4
  refine AWP.ghost (t := 0) rfl rfl ?_
  (repeat (first | ((with_reducible refine rgn_cons rfl (fun K hK => ?_)); simp only [go_sem, seval, ↓reduceIte, decide_true, decide_false, wid (1 + nextX l s1 4) (by omega) (by omega), wid (1 + nextX l (nextS l s1 4) 10) (by omega) (by omega), show pickX l (nextS l (nextS l s1 4) 10) [1 + nextX l s1 4, 1 + nextX l (nextS l s1 4) 10, 0, 11] = bcN l s1 from rfl, show lsL l m (nextS l (nextS l (nextS l s1 4) 10) 4) (bcN l s1).toNat = bcL l m s1 from rfl, show lsS l m (nextS l (nextS l (nextS l s1 4) 10) 4) (bcN l s1).toNat = bcS l m s1 from rfl, show (0 : Int) < ((bcL l m s1).length : Int) by omega, decide_true, h, Int.le_refl, Int.toNat_zero, List.take_zero, Nat.zero_mul, intL_get _ 0 h0, intL_modify]; (first | refine hK _ _ _ (by simp only [go_sem, Nat.reduceEqDiff, ↓reduceIte]; rfl) ?_ | refine ⟨_, c_spec_l01From a c l hB, hK _ _ _ (by simp only [go_sem, Nat.reduceEqDiff, ↓reduceIte]; rfl) ?_⟩ | refine ⟨_, hC1, hK _ _ _ (by simp only [go_sem, Nat.reduceEqDiff, ↓reduceIte]; rfl) ?_⟩ | refine ⟨_, c_spec_l01Next a c l hB s1 hS1 4, hK _ _ _ (by simp only [go_sem, Nat.reduceEqDiff, ↓reduceIte]; rfl) ?_⟩ | refine ⟨_, c_spec_l01Next a c l hB _ q1 10, hK _ _ _ (by simp only [go_sem, Nat.reduceEqDiff, ↓reduceIte]; rfl) ?_⟩ | refine ⟨_, c_spec_l01Pick a c l hB _ q2 [1 + nextX l s1 4, 1 + nextX l (nextS l s1 4) 10, 0, 11] (by simp) (by simp), hK _ _ _ (by simp only [go_sem, Nat.reduceEqDiff, ↓reduceIte]; rfl) ?_⟩ | refine ⟨_, c_spec_l01List a c l hB _ q3 m (bcN l s1) (by omega), hK _ _ _ (by simp only [go_sem, Nat.reduceEqDiff, ↓reduceIte]; rfl) ?_⟩ | refine ⟨_, c_spec_l01Next a c l hB (bcS l m s1) (bcS_ok hS1) 16, hK _ _ _ (by simp only [go_sem, Nat.reduceEqDiff, ↓reduceIte]; rfl) ?_⟩ | refine ⟨_, hC2, hK _ _ _ (by simp only [go_sem, Nat.reduceEqDiff, ↓reduceIte]; rfl) ?_⟩); clear hK; clear K) | (with_reducible first | refine rgn_nil (by first | trivial | kernel_rfl) ?_ | refine AWP.seq ?_ | refine tX hC hP (by kernel_rfl) ?_ | refine aX hC hM hP (by kernel_rfl) ?_ | refine AWP.skip ?_ | refine AWP.label ?_ | refine AWP.exit ?_ | refine AWP.block ?_ | refine cT (by simp only [go_sem, Nat.reduceEqDiff, ↓reduceIte]; with_reducible rfl) ?_ | refine cF (by simp only [go_sem, Nat.reduceEqDiff, ↓reduceIte]; with_reducible rfl) ?_) | simp only [qS, Nat.reduceEqDiff, ↓reduceIte]))
  (refine AWP.ret ?_; first | refine retOk1 (by simp only [go_sem, seval, ↓reduceIte, decide_true, decide_false]; rfl) ?_ | refine retOk2 (by simp only [go_sem, seval, ↓reduceIte, decide_true, decide_false]; rfl) (by simp only [go_sem, seval, ↓reduceIte, decide_true, decide_false]; rfl) (by simp) ?_ | refine retOk3 (by simp only [go_sem, seval, ↓reduceIte, decide_true, decide_false]; rfl) (by simp only [go_sem, seval, ↓reduceIte, decide_true, decide_false]; rfl) (by simp only [go_sem, seval, ↓reduceIte, decide_true, decide_false]; rfl) (by simp) ?_)
  rfl
set_option maxHeartbeats 1000000 in
theorem c_spec_DrawBigOfCoordinates_b (a : Option Addr) (c : Nat) (l : List Int) (hB : Byt l) (m : Int) (s1 : Int × Int) (hS1 : Sok l s1) (hC1 : AFn Try.prog (5000000 + 88) [.str (.src a c l), SRC a c l (from0 l)] (.tup [.int .i64 m, SRC a c l s1])) (h0 : 0 < (bcL l m s1).length) (h : ¬ nextX l (bcS l m s1) 16 = 0) : AFn Try.prog 36 [.str (.src a c l)] (.tup [.int .i64 m, .sl true 2 (intL (bcL l m s1))]) := by
  refine AFn.of' ttOk (by decide) Try.func36 Try.ntmps36 (by rw [Try.results36]) (by rfl) (by rfl) (by simp) (by decide) (by simp only [go_sem, Nat.reduceAdd, ↓reduceIte]; rfl) mixed (fun C hP hM hC => ?_)
  have n1 := nextX_bound hB s1 4
  have n2 := nextX_bound hB (nextS l s1 4) 10
  have n3 := n1.2.1 (by decide)
  have n4 := n2.2.1 (by decide)
  have n5 := bcN_bound hB s1
  have q1 := nextS_ok hS1 4
  have q2 := nextS_ok q1 10
  have q3 := nextS_ok q2 4
  refine AWP.ghost (t := 0) rfl rfl ?_
  (repeat (first | ((with_reducible refine rgn_cons rfl (fun K hK => ?_)); simp only [go_sem, seval, ↓reduceIte, decide_true, decide_false, wid (1 + nextX l s1 4) (by omega) (by omega), wid (1 + nextX l (nextS l s1 4) 10) (by omega) (by omega), show pickX l (nextS l (nextS l s1 4) 10) [1 + nextX l s1 4, 1 + nextX l (nextS l s1 4) 10, 0, 11] = bcN l s1 from rfl, show lsL l m (nextS l (nextS l (nextS l s1 4) 10) 4) (bcN l s1).toNat = bcL l m s1 from rfl, show lsS l m (nextS l (nextS l (nextS l s1 4) 10) 4) (bcN l s1).toNat = bcS l m s1 from rfl, show (0 : Int) < ((bcL l m s1).length : Int) by omega, decide_true, beqF h]; (first | refine hK _ _ _ (by simp only [go_sem, Nat.reduceEqDiff, ↓reduceIte]; rfl) ?_ | refine ⟨_, c_spec_l01From a c l hB, hK _ _ _ (by simp only [go_sem, Nat.reduceEqDiff, ↓reduceIte]; rfl) ?_⟩ | refine ⟨_, hC1, hK _ _ _ (by simp only [go_sem, Nat.reduceEqDiff, ↓reduceIte]; rfl) ?_⟩ | refine ⟨_, c_spec_l01Next a c l hB s1 hS1 4, hK _ _ _ (by simp only [go_sem, Nat.reduceEqDiff, ↓reduceIte]; rfl) ?_⟩ | refine ⟨_, c_spec_l01Next a c l hB _ q1 10, hK _ _ _ (by simp only [go_sem, Nat.reduceEqDiff, ↓reduceIte]; rfl) ?_⟩ | refine ⟨_, c_spec_l01Pick a c l hB _ q2 [1 + nextX l s1 4, 1 + nextX l (nextS l s1 4) 10, 0, 11] (by simp) (by simp), hK _ _ _ (by simp only [go_sem, Nat.reduceEqDiff, ↓reduceIte]; rfl) ?_⟩ | refine ⟨_, c_spec_l01List a c l hB _ q3 m (bcN l s1) (by omega), hK _ _ _ (by simp only [go_sem, Nat.reduceEqDiff, ↓reduceIte]; rfl) ?_⟩ | refine ⟨_, c_spec_l01Next a c l hB (bcS l m s1) (bcS_ok hS1) 16, hK _ _ _ (by simp only [go_sem, Nat.reduceEqDiff, ↓reduceIte]; rfl) ?_⟩); clear hK; clear K) | (with_reducible first | refine rgn_nil (by first | trivial | kernel_rfl) ?_ | refine AWP.seq ?_ | refine tX hC hP (by kernel_rfl) ?_ | refine aX hC hM hP (by kernel_rfl) ?_ | refine AWP.skip ?_ | refine AWP.label ?_ | refine AWP.exit ?_ | refine AWP.block ?_ | refine cT (by simp only [go_sem, Nat.reduceEqDiff, ↓reduceIte]; with_reducible rfl) ?_ | refine cF (by simp only [go_sem, Nat.reduceEqDiff, ↓reduceIte]; with_reducible rfl) ?_) | simp only [qS, Nat.reduceEqDiff, ↓reduceIte]))
  (refine AWP.ret ?_; first | refine retOk1 (by simp only [go_sem, seval, ↓reduceIte, decide_true, decide_false]; rfl) ?_ | refine retOk2 (by simp only [go_sem, seval, ↓reduceIte, decide_true, decide_false]; rfl) (by simp only [go_sem, seval, ↓reduceIte, decide_true, decide_false]; rfl) (by simp) ?_ | refine retOk3 (by simp only [go_sem, seval, ↓reduceIte, decide_true, decide_false]; rfl) (by simp only [go_sem, seval, ↓reduceIte, decide_true, decide_false]; rfl) (by simp only [go_sem, seval, ↓reduceIte, decide_true, decide_false]; rfl) (by simp) ?_)
  rfl
set_option maxHeartbeats 1000000 in
theorem c_spec_DrawBigOfCoordinates_c (a : Option Addr) (c : Nat) (l : List Int) (hB : Byt l) (m : Int) (s1 : Int × Int) (hS1 : Sok l s1) (hC1 : AFn Try.prog (5000000 + 88) [.str (.src a c l), SRC a c l (from0 l)] (.tup [.int .i64 m, SRC a c l s1])) (h0 : ¬ 0 < (bcL l m s1).length) : AFn Try.prog 36 [.str (.src a c l)] (.tup [.int .i64 m, .sl true 2 (intL (bcL l m s1))]) := by
  refine AFn.of' ttOk (by decide) Try.func36 Try.ntmps36 (by rw [Try.results36]) (by rfl) (by rfl) (by simp) (by decide) (by simp only [go_sem, Nat.reduceAdd, ↓reduceIte]; rfl) mixed (fun C hP hM hC => ?_)
  have n1 := nextX_bound hB s1 4
  have n2 := nextX_bound hB (nextS l s1 4) 10
  have n3 := n1.2.1 (by decide)
  have n4 := n2.2.1 (by decide)
  have n5 := bcN_bound hB s1
  have q1 := nextS_ok hS1 4
  have q2 := nextS_ok q1 10
  have q3 := nextS_ok q2 4
  refine AWP.ghost (t := 0) rfl rfl ?_
  (repeat (first | ((with_reducible refine rgn_cons rfl (fun K hK => ?_)); simp only [go_sem, seval, ↓reduceIte, decide_true, decide_false, wid (1 + nextX l s1 4) (by omega) (by omega), wid (1 + nextX l (nextS l s1 4) 10) (by omega) (by omega), show pickX l (nextS l (nextS l s1 4) 10) [1 + nextX l s1 4, 1 + nextX l (nextS l s1 4) 10, 0, 11] = bcN l s1 from rfl, show lsL l m (nextS l (nextS l (nextS l s1 4) 10) 4) (bcN l s1).toNat = bcL l m s1 from rfl, show lsS l m (nextS l (nextS l (nextS l s1 4) 10) 4) (bcN l s1).toNat = bcS l m s1 from rfl, show ¬ (0 : Int) < ((bcL l m s1).length : Int) by omega, decide_false]; (first | refine hK _ _ _ (by simp only [go_sem, Nat.reduceEqDiff, ↓reduceIte]; rfl) ?_ | refine ⟨_, c_spec_l01From a c l hB, hK _ _ _ (by simp only [go_sem, Nat.reduceEqDiff, ↓reduceIte]; rfl) ?_⟩ | refine ⟨_, hC1, hK _ _ _ (by simp only [go_sem, Nat.reduceEqDiff, ↓reduceIte]; rfl) ?_⟩ | refine ⟨_, c_spec_l01Next a c l hB s1 hS1 4, hK _ _ _ (by simp only [go_sem, Nat.reduceEqDiff, ↓reduceIte]; rfl) ?_⟩ | refine ⟨_, c_spec_l01Next a c l hB _ q1 10, hK _ _ _ (by simp only [go_sem, Nat.reduceEqDiff, ↓reduceIte]; rfl) ?_⟩ | refine ⟨_, c_spec_l01Pick a c l hB _ q2 [1 + nextX l s1 4, 1 + nextX l (nextS l s1 4) 10, 0, 11] (by simp) (by simp), hK _ _ _ (by simp only [go_sem, Nat.reduceEqDiff, ↓reduceIte]; rfl) ?_⟩ | refine ⟨_, c_spec_l01List a c l hB _ q3 m (bcN l s1) (by omega), hK _ _ _ (by simp only [go_sem, Nat.reduceEqDiff, ↓reduceIte]; rfl) ?_⟩); clear hK; clear K) | (with_reducible first | refine rgn_nil (by first | trivial | kernel_rfl) ?_ | refine AWP.seq ?_ | refine tX hC hP (by kernel_rfl) ?_ | refine aX hC hM hP (by kernel_rfl) ?_ | refine AWP.skip ?_ | refine AWP.label ?_ | refine AWP.exit ?_ | refine AWP.block ?_ | refine cT (by simp only [go_sem, Nat.reduceEqDiff, ↓reduceIte]; with_reducible rfl) ?_ | refine cF (by simp only [go_sem, Nat.reduceEqDiff, ↓reduceIte]; with_reducible rfl) ?_) | simp only [qS, Nat.reduceEqDiff, ↓reduceIte]))
  (refine AWP.ret ?_; first | refine retOk1 (by simp only [go_sem, seval, ↓reduceIte, decide_true, decide_false]; rfl) ?_ | refine retOk2 (by simp only [go_sem, seval, ↓reduceIte, decide_true, decide_false]; rfl) (by simp only [go_sem, seval, ↓reduceIte, decide_true, decide_false]; rfl) (by simp) ?_ | refine retOk3 (by simp only [go_sem, seval, ↓reduceIte, decide_true, decide_false]; rfl) (by simp only [go_sem, seval, ↓reduceIte, decide_true, decide_false]; rfl) (by simp only [go_sem, seval, ↓reduceIte, decide_true, decide_false]; rfl) (by simp) ?_)
  rfl
theorem DrawBigOfCoordinates_ex {a : Option Addr} {c : Nat} {l : List Int} (hB : Byt l) : ∃ m la, la.length ≤ 100 ∧ AFn Try.prog 36 [.str (.src a c l)] (.tup [.int .i64 m, .sl true 2 (intL la)]) := by
  obtain ⟨m, s1, hS1, hC1⟩ := l01Spoil_ex (a := a) (c := c) hB (from0_ok l)
  have hl := bcL_length hB m s1
  by_cases h0 : 0 < (bcL l m s1).length
  · by_cases h : nextX l (bcS l m s1) 16 = 0
    · obtain ⟨x2, s2, _, hC2⟩ := l01Number_ex (a := a) (c := c) hB (nextS_ok (bcS_ok (m := m) hS1) 16) m
      exact ⟨m, _, by rw [List.length_set]; omega, c_spec_DrawBigOfCoordinates_a a c l hB m s1 s2 x2 hS1 hC1 h0 h hC2⟩
    · exact ⟨m, _, by omega, c_spec_DrawBigOfCoordinates_b a c l hB m s1 hS1 hC1 h0 h⟩
  · exact ⟨m, _, by omega, c_spec_DrawBigOfCoordinates_c a c l hB m s1 hS1 hC1 h0⟩

end Go.Proofs.Ytccjfbfebgfgoaa
