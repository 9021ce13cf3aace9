/-
  The laws' draws.
-/
import Derived.Test.YtapdekacpecgiaaGreatSv
namespace Go.Proofs.YtapdekacpecgiaaGreat
open Go.RowKit
set_option linter.unusedSimpArgs false
set_option linter.unusedVariables false
set_option linter.unusedSectionVars false
set_option maxRecDepth 20000
-- The laws' draws.
set_option maxHeartbeats 2000000 in
theorem c_spec_DrawSubstituteBoth (a : Option Addr) (c : Nat) (l : List Int) (R : T) (m : Int) (t : List (List Int)) (ma mb : Int) (la lb : List Int) (hR : PlT R m t) (hC0 : AFn Tryz.prog 70 [.str (.src a c l)] (.tup [R, .agg [.int .i64 ma, .sl true 2 (intL la)], .agg [.int .i64 mb, .sl true 2 (intL lb)]])) : AFn Tryz.prog 8 [.str (.src a c l)] (.tup [R, .agg [.int .i64 ma, .sl true 2 (intL la)], .agg [.int .i64 mb, .sl true 2 (intL lb)]]) := by
  refine AFn.of' ttOk (by decide) Tryz.func8 Tryz.ntmps8 (by rw [Tryz.results8]) (by rfl) (by rfl) (by simp) (by decide) (by simp only [go_sem, Nat.reduceAdd, ↓reduceIte]; rfl) mixed (fun C hP hM hC => ?_)
  rcases hR with rfl | ⟨k, h, L, k1, k2, k3, k4, rfl⟩
  · (repeat (first | ((with_reducible refine rgn_cons rfl (fun K hK => ?_)); simp only [go_sem, seval, ↓reduceIte, decide_true, decide_false]; (first | refine hK _ _ _ (by simp only [go_sem, Nat.reduceEqDiff, ↓reduceIte]; rfl) ?_ | refine ⟨_, hC0, hK _ _ _ (by simp only [go_sem, Nat.reduceEqDiff, ↓reduceIte]; rfl) ?_⟩); clear hK; clear K) | (with_reducible first | refine rgn_nil (by first | trivial | kernel_rfl) ?_ | refine AWP.seq ?_ | refine tX hC hP (by kernel_rfl) ?_ | refine aX hC hM hP (by kernel_rfl) ?_ | refine AWP.skip ?_ | refine AWP.label ?_ | refine AWP.exit ?_ | refine AWP.block ?_ | refine cTa ?_ | refine cFa ?_) | simp only [qS, Nat.reduceEqDiff, ↓reduceIte]))
    (refine AWP.ret ?_; refine retOk3 (by simp only [go_sem, seval, ↓reduceIte, decide_true, decide_false]; rfl) (by simp only [go_sem, seval, ↓reduceIte, decide_true, decide_false]; rfl) (by simp only [go_sem, seval, ↓reduceIte, decide_true, decide_false]; rfl) (by simp) ?_)
    rfl
  · (repeat (first | ((with_reducible refine rgn_cons rfl (fun K hK => ?_)); simp only [go_sem, seval, ↓reduceIte, decide_true, decide_false]; (first | refine hK _ _ _ (by simp only [go_sem, Nat.reduceEqDiff, ↓reduceIte]; rfl) ?_ | refine ⟨_, hC0, hK _ _ _ (by simp only [go_sem, Nat.reduceEqDiff, ↓reduceIte]; rfl) ?_⟩); clear hK; clear K) | (with_reducible first | refine rgn_nil (by first | trivial | kernel_rfl) ?_ | refine AWP.seq ?_ | refine tX hC hP (by kernel_rfl) ?_ | refine aX hC hM hP (by kernel_rfl) ?_ | refine AWP.skip ?_ | refine AWP.label ?_ | refine AWP.exit ?_ | refine AWP.block ?_ | refine cTa ?_ | refine cFa ?_) | simp only [qS, Nat.reduceEqDiff, ↓reduceIte]))
    (refine AWP.ret ?_; refine retOk3 (by simp only [go_sem, seval, ↓reduceIte, decide_true, decide_false]; rfl) (by simp only [go_sem, seval, ↓reduceIte, decide_true, decide_false]; rfl) (by simp only [go_sem, seval, ↓reduceIte, decide_true, decide_false]; rfl) (by simp) ?_)
    rfl
theorem DrawSubstituteBoth_ex {a : Option Addr} {c : Nat} {l : List Int} (hB : Byt l) : ∃ R m t ma la mb lb, Shp t ∧ 1 ≤ t.length ∧ PlT R m t ∧ la.length ≤ 1000 ∧ lb.length ≤ 1000 ∧ 1 ≤ la.length ∧ 1 ≤ lb.length ∧ AFn Tryz.prog 8 [.str (.src a c l)] (.tup [R, .agg [.int .i64 ma, .sl true 2 (intL la)], .agg [.int .i64 mb, .sl true 2 (intL lb)]]) := by
  obtain ⟨R, m, t, ma, la, mb, lb, h1, h2, h3, h4, h5, h6, h7, hC0⟩ := l03Curved_ex (a := a) (c := c) hB
  exact ⟨R, m, t, ma, la, mb, lb, h1, h2, h3, h4, h5, h6, h7, c_spec_DrawSubstituteBoth a c l R m t ma mb la lb h3 hC0⟩
-- A plane and a number.
set_option maxHeartbeats 2000000 in
theorem c_spec_DrawRowOfPlane (a : Option Addr) (c : Nat) (l : List Int) (hB : Byt l) (R : T) (m x : Int) (t : List (List Int)) (s1 s2 : Int × Int) (hR : PlT R m t) (hsh : Shp t) (hC0 : AFn Tryz.prog (5000000 + 84) [.str (.src a c l), SRC a c l (from0 l)] (.tup [R, SRC a c l s1])) (hC1 : AFn Tryz.prog (5000000 + 97) [.str (.src a c l), SRC a c l s1, .int .i64 ((t.length : Int) - 2)] (.tup [.int .i64 x, SRC a c l s2])) : AFn Tryz.prog 20 [.str (.src a c l)] (.tup [R, .int .i64 x]) := by
  refine AFn.of' ttOk (by decide) Tryz.func20 Tryz.ntmps20 (by rw [Tryz.results20]) (by rfl) (by rfl) (by simp) (by decide) (by simp only [go_sem, Nat.reduceAdd, ↓reduceIte]; rfl) mixed (fun C hP hM hC => ?_)
  have ht := hsh.1
  have hw := wid ((t.length : Int) - 2) (by omega) (by omega)
  refine AWP.ghost (t := 0) rfl rfl ?_
  rcases hR with rfl | ⟨k, h, L, k1, k2, k3, k4, rfl⟩
  · (repeat (first | ((with_reducible refine rgn_cons rfl (fun K hK => ?_)); simp only [go_sem, seval, ↓reduceIte, decide_true, decide_false, rowsO_length, hw]; (first | refine hK _ _ _ (by simp only [go_sem, Nat.reduceEqDiff, ↓reduceIte]; rfl) ?_ | refine ⟨_, c_spec_l01From a c l hB, hK _ _ _ (by simp only [go_sem, Nat.reduceEqDiff, ↓reduceIte]; rfl) ?_⟩ | refine ⟨_, hC0, hK _ _ _ (by simp only [go_sem, Nat.reduceEqDiff, ↓reduceIte]; rfl) ?_⟩ | refine ⟨_, hC1, hK _ _ _ (by simp only [go_sem, Nat.reduceEqDiff, ↓reduceIte]; rfl) ?_⟩); clear hK; clear K) | (with_reducible first | refine rgn_nil (by first | trivial | kernel_rfl) ?_ | refine AWP.seq ?_ | refine tX hC hP (by kernel_rfl) ?_ | refine aX hC hM hP (by kernel_rfl) ?_ | refine AWP.skip ?_ | refine AWP.label ?_ | refine AWP.exit ?_ | refine AWP.block ?_ | refine cTa ?_ | refine cFa ?_) | simp only [qS, Nat.reduceEqDiff, ↓reduceIte]))
    (refine AWP.ret ?_; refine retOk2 (by simp only [go_sem, seval, ↓reduceIte, decide_true, decide_false]; rfl) (by simp only [go_sem, seval, ↓reduceIte, decide_true, decide_false]; rfl) (by simp) ?_)
    rfl
  · have hwl : (((rowsO L).take h).drop k).length = t.length := by rw [win_len k1 k2, k4, win_length k1 k2]
    (repeat (first | ((with_reducible refine rgn_cons rfl (fun K hK => ?_)); simp only [go_sem, seval, ↓reduceIte, decide_true, decide_false, hwl, hw]; (first | refine hK _ _ _ (by simp only [go_sem, Nat.reduceEqDiff, ↓reduceIte]; rfl) ?_ | refine ⟨_, c_spec_l01From a c l hB, hK _ _ _ (by simp only [go_sem, Nat.reduceEqDiff, ↓reduceIte]; rfl) ?_⟩ | refine ⟨_, hC0, hK _ _ _ (by simp only [go_sem, Nat.reduceEqDiff, ↓reduceIte]; rfl) ?_⟩ | refine ⟨_, hC1, hK _ _ _ (by simp only [go_sem, Nat.reduceEqDiff, ↓reduceIte]; rfl) ?_⟩); clear hK; clear K) | (with_reducible first | refine rgn_nil (by first | trivial | kernel_rfl) ?_ | refine AWP.seq ?_ | refine tX hC hP (by kernel_rfl) ?_ | refine aX hC hM hP (by kernel_rfl) ?_ | refine AWP.skip ?_ | refine AWP.label ?_ | refine AWP.exit ?_ | refine AWP.block ?_ | refine cTa ?_ | refine cFa ?_) | simp only [qS, Nat.reduceEqDiff, ↓reduceIte]))
    (refine AWP.ret ?_; refine retOk2 (by simp only [go_sem, seval, ↓reduceIte, decide_true, decide_false]; rfl) (by simp only [go_sem, seval, ↓reduceIte, decide_true, decide_false]; rfl) (by simp) ?_)
    rfl
theorem l01Count_su {a : Option Addr} {c : Nat} {l : List Int} (hB : Byt l) {s : Int × Int} (hS : Sok l s) (m : Int) (h0 : -1000000000000 ≤ m ∧ m ≤ 1000000000000) : ∃ x s', Sok l s' ∧ AFn Tryz.prog (5000000 + 97) [.str (.src a c l), SRC a c l s, .int .i64 m] (.tup [.int .i64 x, SRC a c l s']) := by
  by_cases h : nextX l s 14 = 0
  · exact ⟨_, _, nextS_ok (nextS_ok hS 14) 4, c_spec_l01Count_odd a c l hB s hS m h0 h⟩
  · exact ⟨_, _, nextS_ok (nextS_ok hS 14) (m + 1), c_spec_l01Count a c l hB s hS m h0 h⟩
theorem DrawRowOfPlane_ex {a : Option Addr} {c : Nat} {l : List Int} (hB : Byt l) : ∃ R m t x, Shp t ∧ 1 ≤ t.length ∧ PlT R m t ∧ AFn Tryz.prog 20 [.str (.src a c l)] (.tup [R, .int .i64 x]) := by
  obtain ⟨R, m, t, s1, q1, hsh, h1, hR, hC0⟩ := l03Spoil_ex (a := a) (c := c) hB (from0_ok l)
  have ht := hsh.1
  obtain ⟨x, s2, q2, hC1⟩ := l01Count_su (a := a) (c := c) hB q1 ((t.length : Int) - 2) (by omega)
  exact ⟨R, m, t, x, hsh, h1, hR, c_spec_DrawRowOfPlane a c l hB R m x t s1 s2 hR hsh hC0 hC1⟩
set_option maxHeartbeats 2000000 in
theorem c_spec_DrawCutPlane (a : Option Addr) (c : Nat) (l : List Int) (hB : Byt l) (R : T) (m x : Int) (t : List (List Int)) (s1 s2 : Int × Int) (hR : PlT R m t) (hsh : Shp t) (hC0 : AFn Tryz.prog (5000000 + 84) [.str (.src a c l), SRC a c l (from0 l)] (.tup [R, SRC a c l s1])) (hC1 : AFn Tryz.prog (5000000 + 97) [.str (.src a c l), SRC a c l s1, .int .i64 ((t.length : Int) - 2)] (.tup [.int .i64 x, SRC a c l s2])) : AFn Tryz.prog 23 [.str (.src a c l)] (.tup [R, .int .i64 (IntKind.i64.wrap (1 + x))]) := by
  refine AFn.of' ttOk (by decide) Tryz.func23 Tryz.ntmps23 (by rw [Tryz.results23]) (by rfl) (by rfl) (by simp) (by decide) (by simp only [go_sem, Nat.reduceAdd, ↓reduceIte]; rfl) mixed (fun C hP hM hC => ?_)
  have ht := hsh.1
  have hw := wid ((t.length : Int) - 2) (by omega) (by omega)
  refine AWP.ghost (t := 0) rfl rfl ?_
  rcases hR with rfl | ⟨k, h, L, k1, k2, k3, k4, rfl⟩
  · (repeat (first | ((with_reducible refine rgn_cons rfl (fun K hK => ?_)); simp only [go_sem, seval, ↓reduceIte, decide_true, decide_false, rowsO_length, hw]; (first | refine hK _ _ _ (by simp only [go_sem, Nat.reduceEqDiff, ↓reduceIte]; rfl) ?_ | refine ⟨_, c_spec_l01From a c l hB, hK _ _ _ (by simp only [go_sem, Nat.reduceEqDiff, ↓reduceIte]; rfl) ?_⟩ | refine ⟨_, hC0, hK _ _ _ (by simp only [go_sem, Nat.reduceEqDiff, ↓reduceIte]; rfl) ?_⟩ | refine ⟨_, hC1, hK _ _ _ (by simp only [go_sem, Nat.reduceEqDiff, ↓reduceIte]; rfl) ?_⟩); clear hK; clear K) | (with_reducible first | refine rgn_nil (by first | trivial | kernel_rfl) ?_ | refine AWP.seq ?_ | refine tX hC hP (by kernel_rfl) ?_ | refine aX hC hM hP (by kernel_rfl) ?_ | refine AWP.skip ?_ | refine AWP.label ?_ | refine AWP.exit ?_ | refine AWP.block ?_ | refine cTa ?_ | refine cFa ?_) | simp only [qS, Nat.reduceEqDiff, ↓reduceIte]))
    (refine AWP.ret ?_; refine retOk2 (by simp only [go_sem, seval, ↓reduceIte, decide_true, decide_false]; rfl) (by simp only [go_sem, seval, ↓reduceIte, decide_true, decide_false]; rfl) (by simp) ?_)
    rfl
  · have hwl : (((rowsO L).take h).drop k).length = t.length := by rw [win_len k1 k2, k4, win_length k1 k2]
    (repeat (first | ((with_reducible refine rgn_cons rfl (fun K hK => ?_)); simp only [go_sem, seval, ↓reduceIte, decide_true, decide_false, hwl, hw]; (first | refine hK _ _ _ (by simp only [go_sem, Nat.reduceEqDiff, ↓reduceIte]; rfl) ?_ | refine ⟨_, c_spec_l01From a c l hB, hK _ _ _ (by simp only [go_sem, Nat.reduceEqDiff, ↓reduceIte]; rfl) ?_⟩ | refine ⟨_, hC0, hK _ _ _ (by simp only [go_sem, Nat.reduceEqDiff, ↓reduceIte]; rfl) ?_⟩ | refine ⟨_, hC1, hK _ _ _ (by simp only [go_sem, Nat.reduceEqDiff, ↓reduceIte]; rfl) ?_⟩); clear hK; clear K) | (with_reducible first | refine rgn_nil (by first | trivial | kernel_rfl) ?_ | refine AWP.seq ?_ | refine tX hC hP (by kernel_rfl) ?_ | refine aX hC hM hP (by kernel_rfl) ?_ | refine AWP.skip ?_ | refine AWP.label ?_ | refine AWP.exit ?_ | refine AWP.block ?_ | refine cTa ?_ | refine cFa ?_) | simp only [qS, Nat.reduceEqDiff, ↓reduceIte]))
    (refine AWP.ret ?_; refine retOk2 (by simp only [go_sem, seval, ↓reduceIte, decide_true, decide_false]; rfl) (by simp only [go_sem, seval, ↓reduceIte, decide_true, decide_false]; rfl) (by simp) ?_)
    rfl
theorem DrawCutPlane_ex {a : Option Addr} {c : Nat} {l : List Int} (hB : Byt l) : ∃ R m t x, Shp t ∧ 1 ≤ t.length ∧ PlT R m t ∧ AFn Tryz.prog 23 [.str (.src a c l)] (.tup [R, .int .i64 x]) := by
  obtain ⟨R, m, t, s1, q1, hsh, h1, hR, hC0⟩ := l03Spoil_ex (a := a) (c := c) hB (from0_ok l)
  have ht := hsh.1
  obtain ⟨x, s2, q2, hC1⟩ := l01Count_su (a := a) (c := c) hB q1 ((t.length : Int) - 2) (by omega)
  exact ⟨R, m, t, _, hsh, h1, hR, c_spec_DrawCutPlane a c l hB R m x t s1 s2 hR hsh hC0 hC1⟩
-- A divisor.
def dvW (l : List Int) (m : Int) (s : Int × Int) : Nat → Int × (Int × Int)
  | 0 => (m, s)
  | i + 1 => (if ((dvW l m s i).1.tmod (pickX l (dvW l m s i).2 [2, 3, 5, 7]) == 0) = true then IntKind.i64.wrap ((dvW l m s i).1.tdiv (pickX l (dvW l m s i).2 [2, 3, 5, 7])) else (dvW l m s i).1, nextS l (dvW l m s i).2 4)
theorem dvW_ok {l : List Int} {m : Int} {s : Int × Int} (hS : Sok l s) : ∀ i, Sok l (dvW l m s i).2
  | 0 => hS
  | i + 1 => nextS_ok (dvW_ok hS i) 4
theorem pick2357 {l : List Int} (hB : Byt l) (s : Int × Int) : pickX l s [2, 3, 5, 7] ≠ 0 := by
  have h1 := nextX_bound hB s 4
  have h2 := h1.2.1 (by decide)
  unfold pickX
  have : (nextX l s 4).toNat = 0 ∨ (nextX l s 4).toNat = 1 ∨ (nextX l s 4).toNat = 2 ∨ (nextX l s 4).toNat = 3 := by omega
  rcases this with e | e | e | e <;> rw [show (([2, 3, 5, 7] : List Int).length : Int) = 4 from rfl, e] <;> decide
def dvN (l : List Int) (m : Int) (s : Int × Int) : Nat := if 1 < m then (nextX l s 4).toNat else 0
def dvE (l : List Int) (m : Int) (s : Int × Int) : Int × (Int × Int) := dvW l m (nextS l s 4) (dvN l m s)
def dvX (l : List Int) (m : Int) (s : Int × Int) : Int := if nextX l (dvE l m s).2 12 = 0 then pickX l (nextS l (dvE l m s).2 12) [1, 0, IntKind.i64.wrap (m + 1), IntKind.i64.wrap (2 * m), 3] else (dvE l m s).1
def dvS (l : List Int) (m : Int) (s : Int × Int) : Int × Int := if nextX l (dvE l m s).2 12 = 0 then nextS l (nextS l (dvE l m s).2 12) 5 else nextS l (dvE l m s).2 12
set_option maxHeartbeats 4000000 in
theorem c_spec_l02Divisor (a : Option Addr) (c : Nat) (l : List Int) (hB : Byt l) (s : Int × Int) (hS : Sok l s) (m : Int) : AFn Tryz.prog (5000000 + 106) [.str (.src a c l), .box 155 (.agg [.str (.raw a l.length c), .int .i64 s.1, .int .u64 s.2]), .int .i64 m] (.tup [.int .i64 (dvX l m s), .box 155 (.agg [.str (.raw a l.length c), .int .i64 (dvS l m s).1, .int .u64 (dvS l m s).2])]) := by
  refine AFg.of' ttOk Tryz.func106 Tryz.ntmps106 (by rw [Tryz.results106]) (by rfl) (by rfl) (by simp) (by decide) (by decide) srcScalar srcScalar rfl (by simp only [go_sem, Nat.reduceAdd, ↓reduceIte]; rfl) mixed (fun C hP hM hC => ?_)
  have q1 := nextS_ok hS 4
  have n1 := nextX_bound hB s 4
  have n2 := n1.2.1 (by decide)
  (repeat (first | ((with_reducible refine rgn_cons rfl (fun K hK => ?_)); simp only [go_sem, seval, ↓reduceIte, decide_true, decide_false]; (first | refine hK _ _ _ (by simp only [go_sem, Nat.reduceEqDiff, ↓reduceIte]; rfl) ?_ | refine ⟨_, c_spec_l01Next a c l hB s hS 4, hK _ _ _ (by simp only [go_sem, Nat.reduceEqDiff, ↓reduceIte]; rfl) ?_⟩); clear hK; clear K) | (with_reducible first | refine rgn_nil (by first | trivial | kernel_rfl) ?_ | refine AWP.seq ?_ | refine tX hC hP (by kernel_rfl) ?_ | refine aX hC hM hP (by kernel_rfl) ?_ | refine AWP.skip ?_ | refine AWP.label ?_ | refine AWP.exit ?_ | refine AWP.block ?_ | refine cTa ?_ | refine cFa ?_) | simp only [qS, Nat.reduceEqDiff, ↓reduceIte]))
  refine AWP.loop (fun i : Nat => [(6, ⟨0, .val (.int .i64 (nextX l s 4 - (i : Int)))⟩), (5, ⟨0, .val (.int .i64 ((dvW l m (nextS l s 4) i).1))⟩), (1, ⟨0, .val (.int .i64 m)⟩), (4, ⟨0, .val (.int .i64 0)⟩), (3000000, ⟨0, .val (.str (.src a c l))⟩), (0, ⟨0, .val (.addr 3000001 0 [] 0 [0])⟩), (3000001, ⟨0, .own (.box 155 (.agg [.str (.raw a l.length c), .int .i64 (dvW l m (nextS l s 4) i).2.1, .int .u64 (dvW l m (nextS l s 4) i).2.2]))⟩)]) (fun i => i ≤ dvN l m s) (fun i => 4 - i) 0 (Nat.zero_le _) (fun i => rfl) ?_ (fun i hi => ?_)
  · simp [Sub, lk, dvW]
  · have q2 := dvW_ok (m := m) q1 i
    have hN : dvN l m s ≤ 3 := by unfold dvN; split <;> omega
    by_cases g : i < dvN l m s
    · have g1 : 1 < m := by
        apply Classical.byContradiction
        intro h
        rw [dvN, if_neg h] at g; omega
      have g2 : dvN l m s = (nextX l s 4).toNat := if_pos g1
      by_cases g3 : ((dvW l m (nextS l s 4) i).1.tmod (pickX l (dvW l m (nextS l s 4) i).2 [2, 3, 5, 7]) == 0) = true
      · have e1 : (dvW l m (nextS l s 4) (i + 1)).1 = IntKind.i64.wrap ((dvW l m (nextS l s 4) i).1.tdiv (pickX l (dvW l m (nextS l s 4) i).2 [2, 3, 5, 7])) := by rw [dvW]; exact if_pos g3
        (repeat (first | ((with_reducible refine rgn_cons rfl (fun K hK => ?_)); simp only [go_sem, seval, ↓reduceIte, decide_true, decide_false, show (0 : Int) < nextX l s 4 - (i : Int) by omega, g1, decide_true, pick2357 hB, g3, wid (nextX l s 4 - (i : Int) - 1) (by omega) (by omega)]; (first | refine hK _ _ _ (by simp only [go_sem, Nat.reduceEqDiff, ↓reduceIte]; rfl) ?_ | refine ⟨_, c_spec_l01Pick a c l hB _ q2 [2, 3, 5, 7] (by simp) (by simp), hK _ _ _ (by simp only [go_sem, Nat.reduceEqDiff, ↓reduceIte]; rfl) ?_⟩); clear hK; clear K) | (with_reducible first | refine rgn_nil (by first | trivial | kernel_rfl) ?_ | refine AWP.seq ?_ | refine tX hC hP (by kernel_rfl) ?_ | refine aX hC hM hP (by kernel_rfl) ?_ | refine AWP.skip ?_ | refine AWP.label ?_ | refine AWP.exit ?_ | refine AWP.block ?_ | refine cTa ?_ | refine cFa ?_) | simp only [qS, Nat.reduceEqDiff, ↓reduceIte]))
        refine ⟨i + 1, g, by omega, ?_⟩
        rw [e1]
        simp [Sub, lk, dvW]; omega
      · have e1 : (dvW l m (nextS l s 4) (i + 1)).1 = (dvW l m (nextS l s 4) i).1 := by rw [dvW]; exact if_neg g3
        have g4 : ((dvW l m (nextS l s 4) i).1.tmod (pickX l (dvW l m (nextS l s 4) i).2 [2, 3, 5, 7]) == 0) = false := by simpa using g3
        (repeat (first | ((with_reducible refine rgn_cons rfl (fun K hK => ?_)); simp only [go_sem, seval, ↓reduceIte, decide_true, decide_false, show (0 : Int) < nextX l s 4 - (i : Int) by omega, g1, decide_true, pick2357 hB, g4, wid (nextX l s 4 - (i : Int) - 1) (by omega) (by omega)]; (first | refine hK _ _ _ (by simp only [go_sem, Nat.reduceEqDiff, ↓reduceIte]; rfl) ?_ | refine ⟨_, c_spec_l01Pick a c l hB _ q2 [2, 3, 5, 7] (by simp) (by simp), hK _ _ _ (by simp only [go_sem, Nat.reduceEqDiff, ↓reduceIte]; rfl) ?_⟩); clear hK; clear K) | (with_reducible first | refine rgn_nil (by first | trivial | kernel_rfl) ?_ | refine AWP.seq ?_ | refine tX hC hP (by kernel_rfl) ?_ | refine aX hC hM hP (by kernel_rfl) ?_ | refine AWP.skip ?_ | refine AWP.label ?_ | refine AWP.exit ?_ | refine AWP.block ?_ | refine cTa ?_ | refine cFa ?_) | simp only [qS, Nat.reduceEqDiff, ↓reduceIte]))
        refine ⟨i + 1, g, by omega, ?_⟩
        rw [e1]
        simp [Sub, lk, dvW]; omega
    · have hi2 : i = dvN l m s := by omega
      have hE : dvW l m (nextS l s 4) i = dvE l m s := by rw [hi2]; rfl
      rw [hE] at q2
      have q3 := nextS_ok q2 12
      by_cases g1 : 1 < m
      · have g2 : dvN l m s = (nextX l s 4).toNat := if_pos g1
        by_cases g3 : nextX l (dvE l m s).2 12 = 0
        · rw [show dvX l m s = pickX l (nextS l (dvE l m s).2 12) [1, 0, IntKind.i64.wrap (m + 1), IntKind.i64.wrap (2 * m), 3] from if_pos g3, show dvS l m s = nextS l (nextS l (dvE l m s).2 12) 5 from if_pos g3]
          (repeat (first | ((with_reducible refine rgn_cons rfl (fun K hK => ?_)); simp only [go_sem, seval, ↓reduceIte, decide_true, decide_false, show ¬ (0 : Int) < nextX l s 4 - (i : Int) by omega, decide_false, hE, g3]; (first | refine hK _ _ _ (by simp only [go_sem, Nat.reduceEqDiff, ↓reduceIte]; rfl) ?_ | refine ⟨_, c_spec_l01Next a c l hB _ q2 12, hK _ _ _ (by simp only [go_sem, Nat.reduceEqDiff, ↓reduceIte]; rfl) ?_⟩ | refine ⟨_, c_spec_l01Pick a c l hB _ q3 [1, 0, IntKind.i64.wrap (m + 1), IntKind.i64.wrap (2 * m), 3] (by simp) (by simp), hK _ _ _ (by simp only [go_sem, Nat.reduceEqDiff, ↓reduceIte]; rfl) ?_⟩); clear hK; clear K) | (with_reducible first | refine rgn_nil (by first | trivial | kernel_rfl) ?_ | refine AWP.seq ?_ | refine tX hC hP (by kernel_rfl) ?_ | refine aX hC hM hP (by kernel_rfl) ?_ | refine AWP.skip ?_ | refine AWP.label ?_ | refine AWP.exit ?_ | refine AWP.block ?_ | refine cTa ?_ | refine cFa ?_) | simp only [qS, Nat.reduceEqDiff, ↓reduceIte]))
          (refine AWP.ret ?_; refine retG1 (by simp only [go_sem, seval, ↓reduceIte, decide_true, decide_false]; rfl) (by simp) (by rfl) ?_)
          rfl
        · rw [show dvX l m s = (dvE l m s).1 from if_neg g3, show dvS l m s = nextS l (dvE l m s).2 12 from if_neg g3]
          (repeat (first | ((with_reducible refine rgn_cons rfl (fun K hK => ?_)); simp only [go_sem, seval, ↓reduceIte, decide_true, decide_false, show ¬ (0 : Int) < nextX l s 4 - (i : Int) by omega, decide_false, hE, beqF g3]; (first | refine hK _ _ _ (by simp only [go_sem, Nat.reduceEqDiff, ↓reduceIte]; rfl) ?_ | refine ⟨_, c_spec_l01Next a c l hB _ q2 12, hK _ _ _ (by simp only [go_sem, Nat.reduceEqDiff, ↓reduceIte]; rfl) ?_⟩); clear hK; clear K) | (with_reducible first | refine rgn_nil (by first | trivial | kernel_rfl) ?_ | refine AWP.seq ?_ | refine tX hC hP (by kernel_rfl) ?_ | refine aX hC hM hP (by kernel_rfl) ?_ | refine AWP.skip ?_ | refine AWP.label ?_ | refine AWP.exit ?_ | refine AWP.block ?_ | refine cTa ?_ | refine cFa ?_) | simp only [qS, Nat.reduceEqDiff, ↓reduceIte]))
          (refine AWP.ret ?_; refine retG1 (by simp only [go_sem, seval, ↓reduceIte, decide_true, decide_false]; rfl) (by simp) (by rfl) ?_)
          rfl
      · have g2 : dvN l m s = 0 := if_neg g1
        have hi3 : i = 0 := by omega
        subst hi3
        by_cases g4 : 0 < nextX l s 4
        · by_cases g3 : nextX l (dvE l m s).2 12 = 0
          · rw [show dvX l m s = pickX l (nextS l (dvE l m s).2 12) [1, 0, IntKind.i64.wrap (m + 1), IntKind.i64.wrap (2 * m), 3] from if_pos g3, show dvS l m s = nextS l (nextS l (dvE l m s).2 12) 5 from if_pos g3]
            (repeat (first | ((with_reducible refine rgn_cons rfl (fun K hK => ?_)); simp only [go_sem, seval, ↓reduceIte, decide_true, decide_false, Int.natCast_zero, Int.sub_zero, g4, g1, decide_true, decide_false, hE, g3]; (first | refine hK _ _ _ (by simp only [go_sem, Nat.reduceEqDiff, ↓reduceIte]; rfl) ?_ | refine ⟨_, c_spec_l01Next a c l hB _ q2 12, hK _ _ _ (by simp only [go_sem, Nat.reduceEqDiff, ↓reduceIte]; rfl) ?_⟩ | refine ⟨_, c_spec_l01Pick a c l hB _ q3 [1, 0, IntKind.i64.wrap (m + 1), IntKind.i64.wrap (2 * m), 3] (by simp) (by simp), hK _ _ _ (by simp only [go_sem, Nat.reduceEqDiff, ↓reduceIte]; rfl) ?_⟩); clear hK; clear K) | (with_reducible first | refine rgn_nil (by first | trivial | kernel_rfl) ?_ | refine AWP.seq ?_ | refine tX hC hP (by kernel_rfl) ?_ | refine aX hC hM hP (by kernel_rfl) ?_ | refine AWP.skip ?_ | refine AWP.label ?_ | refine AWP.exit ?_ | refine AWP.block ?_ | refine cTa ?_ | refine cFa ?_) | simp only [qS, Nat.reduceEqDiff, ↓reduceIte]))
            (refine AWP.ret ?_; refine retG1 (by simp only [go_sem, seval, ↓reduceIte, decide_true, decide_false]; rfl) (by simp) (by rfl) ?_)
            rfl
          · rw [show dvX l m s = (dvE l m s).1 from if_neg g3, show dvS l m s = nextS l (dvE l m s).2 12 from if_neg g3]
            (repeat (first | ((with_reducible refine rgn_cons rfl (fun K hK => ?_)); simp only [go_sem, seval, ↓reduceIte, decide_true, decide_false, Int.natCast_zero, Int.sub_zero, g4, g1, decide_true, decide_false, hE, beqF g3]; (first | refine hK _ _ _ (by simp only [go_sem, Nat.reduceEqDiff, ↓reduceIte]; rfl) ?_ | refine ⟨_, c_spec_l01Next a c l hB _ q2 12, hK _ _ _ (by simp only [go_sem, Nat.reduceEqDiff, ↓reduceIte]; rfl) ?_⟩); clear hK; clear K) | (with_reducible first | refine rgn_nil (by first | trivial | kernel_rfl) ?_ | refine AWP.seq ?_ | refine tX hC hP (by kernel_rfl) ?_ | refine aX hC hM hP (by kernel_rfl) ?_ | refine AWP.skip ?_ | refine AWP.label ?_ | refine AWP.exit ?_ | refine AWP.block ?_ | refine cTa ?_ | refine cFa ?_) | simp only [qS, Nat.reduceEqDiff, ↓reduceIte]))
            (refine AWP.ret ?_; refine retG1 (by simp only [go_sem, seval, ↓reduceIte, decide_true, decide_false]; rfl) (by simp) (by rfl) ?_)
            rfl
        · by_cases g3 : nextX l (dvE l m s).2 12 = 0
          · rw [show dvX l m s = pickX l (nextS l (dvE l m s).2 12) [1, 0, IntKind.i64.wrap (m + 1), IntKind.i64.wrap (2 * m), 3] from if_pos g3, show dvS l m s = nextS l (nextS l (dvE l m s).2 12) 5 from if_pos g3]
            (repeat (first | ((with_reducible refine rgn_cons rfl (fun K hK => ?_)); simp only [go_sem, seval, ↓reduceIte, decide_true, decide_false, Int.natCast_zero, Int.sub_zero, g4, decide_false, hE, g3]; (first | refine hK _ _ _ (by simp only [go_sem, Nat.reduceEqDiff, ↓reduceIte]; rfl) ?_ | refine ⟨_, c_spec_l01Next a c l hB _ q2 12, hK _ _ _ (by simp only [go_sem, Nat.reduceEqDiff, ↓reduceIte]; rfl) ?_⟩ | refine ⟨_, c_spec_l01Pick a c l hB _ q3 [1, 0, IntKind.i64.wrap (m + 1), IntKind.i64.wrap (2 * m), 3] (by simp) (by simp), hK _ _ _ (by simp only [go_sem, Nat.reduceEqDiff, ↓reduceIte]; rfl) ?_⟩); clear hK; clear K) | (with_reducible first | refine rgn_nil (by first | trivial | kernel_rfl) ?_ | refine AWP.seq ?_ | refine tX hC hP (by kernel_rfl) ?_ | refine aX hC hM hP (by kernel_rfl) ?_ | refine AWP.skip ?_ | refine AWP.label ?_ | refine AWP.exit ?_ | refine AWP.block ?_ | refine cTa ?_ | refine cFa ?_) | simp only [qS, Nat.reduceEqDiff, ↓reduceIte]))
            (refine AWP.ret ?_; refine retG1 (by simp only [go_sem, seval, ↓reduceIte, decide_true, decide_false]; rfl) (by simp) (by rfl) ?_)
            rfl
          · rw [show dvX l m s = (dvE l m s).1 from if_neg g3, show dvS l m s = nextS l (dvE l m s).2 12 from if_neg g3]
            (repeat (first | ((with_reducible refine rgn_cons rfl (fun K hK => ?_)); simp only [go_sem, seval, ↓reduceIte, decide_true, decide_false, Int.natCast_zero, Int.sub_zero, g4, decide_false, hE, beqF g3]; (first | refine hK _ _ _ (by simp only [go_sem, Nat.reduceEqDiff, ↓reduceIte]; rfl) ?_ | refine ⟨_, c_spec_l01Next a c l hB _ q2 12, hK _ _ _ (by simp only [go_sem, Nat.reduceEqDiff, ↓reduceIte]; rfl) ?_⟩); clear hK; clear K) | (with_reducible first | refine rgn_nil (by first | trivial | kernel_rfl) ?_ | refine AWP.seq ?_ | refine tX hC hP (by kernel_rfl) ?_ | refine aX hC hM hP (by kernel_rfl) ?_ | refine AWP.skip ?_ | refine AWP.label ?_ | refine AWP.exit ?_ | refine AWP.block ?_ | refine cTa ?_ | refine cFa ?_) | simp only [qS, Nat.reduceEqDiff, ↓reduceIte]))
            (refine AWP.ret ?_; refine retG1 (by simp only [go_sem, seval, ↓reduceIte, decide_true, decide_false]; rfl) (by simp) (by rfl) ?_)
            rfl
set_option maxHeartbeats 2000000 in
theorem c_spec_DrawChangePlane (a : Option Addr) (c : Nat) (l : List Int) (hB : Byt l) (R : T) (m : Int) (t : List (List Int)) (s1 : Int × Int) (q1 : Sok l s1) (hR : PlT R m t) (hC0 : AFn Tryz.prog (5000000 + 84) [.str (.src a c l), SRC a c l (from0 l)] (.tup [R, SRC a c l s1])) : AFn Tryz.prog 26 [.str (.src a c l)] (.tup [R, .int .i64 (dvX l m s1)]) := by
  refine AFn.of' ttOk (by decide) Tryz.func26 Tryz.ntmps26 (by rw [Tryz.results26]) (by rfl) (by rfl) (by simp) (by decide) (by simp only [go_sem, Nat.reduceAdd, ↓reduceIte]; rfl) mixed (fun C hP hM hC => ?_)
  refine AWP.ghost (t := 0) rfl rfl ?_
  rcases hR with rfl | ⟨k, h, L, k1, k2, k3, k4, rfl⟩
  · (repeat (first | ((with_reducible refine rgn_cons rfl (fun K hK => ?_)); simp only [go_sem, seval, ↓reduceIte, decide_true, decide_false]; (first | refine hK _ _ _ (by simp only [go_sem, Nat.reduceEqDiff, ↓reduceIte]; rfl) ?_ | refine ⟨_, c_spec_l01From a c l hB, hK _ _ _ (by simp only [go_sem, Nat.reduceEqDiff, ↓reduceIte]; rfl) ?_⟩ | refine ⟨_, hC0, hK _ _ _ (by simp only [go_sem, Nat.reduceEqDiff, ↓reduceIte]; rfl) ?_⟩ | refine ⟨_, c_spec_l02Divisor a c l hB s1 q1 m, hK _ _ _ (by simp only [go_sem, Nat.reduceEqDiff, ↓reduceIte]; rfl) ?_⟩); clear hK; clear K) | (with_reducible first | refine rgn_nil (by first | trivial | kernel_rfl) ?_ | refine AWP.seq ?_ | refine tX hC hP (by kernel_rfl) ?_ | refine aX hC hM hP (by kernel_rfl) ?_ | refine AWP.skip ?_ | refine AWP.label ?_ | refine AWP.exit ?_ | refine AWP.block ?_ | refine cTa ?_ | refine cFa ?_) | simp only [qS, Nat.reduceEqDiff, ↓reduceIte]))
    (refine AWP.ret ?_; refine retOk2 (by simp only [go_sem, seval, ↓reduceIte, decide_true, decide_false]; rfl) (by simp only [go_sem, seval, ↓reduceIte, decide_true, decide_false]; rfl) (by simp) ?_)
    rfl
  · (repeat (first | ((with_reducible refine rgn_cons rfl (fun K hK => ?_)); simp only [go_sem, seval, ↓reduceIte, decide_true, decide_false]; (first | refine hK _ _ _ (by simp only [go_sem, Nat.reduceEqDiff, ↓reduceIte]; rfl) ?_ | refine ⟨_, c_spec_l01From a c l hB, hK _ _ _ (by simp only [go_sem, Nat.reduceEqDiff, ↓reduceIte]; rfl) ?_⟩ | refine ⟨_, hC0, hK _ _ _ (by simp only [go_sem, Nat.reduceEqDiff, ↓reduceIte]; rfl) ?_⟩ | refine ⟨_, c_spec_l02Divisor a c l hB s1 q1 m, hK _ _ _ (by simp only [go_sem, Nat.reduceEqDiff, ↓reduceIte]; rfl) ?_⟩); clear hK; clear K) | (with_reducible first | refine rgn_nil (by first | trivial | kernel_rfl) ?_ | refine AWP.seq ?_ | refine tX hC hP (by kernel_rfl) ?_ | refine aX hC hM hP (by kernel_rfl) ?_ | refine AWP.skip ?_ | refine AWP.label ?_ | refine AWP.exit ?_ | refine AWP.block ?_ | refine cTa ?_ | refine cFa ?_) | simp only [qS, Nat.reduceEqDiff, ↓reduceIte]))
    (refine AWP.ret ?_; refine retOk2 (by simp only [go_sem, seval, ↓reduceIte, decide_true, decide_false]; rfl) (by simp only [go_sem, seval, ↓reduceIte, decide_true, decide_false]; rfl) (by simp) ?_)
    rfl
theorem DrawChangePlane_ex {a : Option Addr} {c : Nat} {l : List Int} (hB : Byt l) : ∃ R m t x, Shp t ∧ 1 ≤ t.length ∧ PlT R m t ∧ AFn Tryz.prog 26 [.str (.src a c l)] (.tup [R, .int .i64 x]) := by
  obtain ⟨R, m, t, s1, q1, hsh, h1, hR, hC0⟩ := l03Spoil_ex (a := a) (c := c) hB (from0_ok l)
  exact ⟨R, m, t, _, hsh, h1, hR, c_spec_DrawChangePlane a c l hB R m t s1 q1 hR hC0⟩
end Go.Proofs.YtapdekacpecgiaaGreat
