/-
  The multiplicative law.
-/
import Derived.Test.YtahnnangdepkbaaJk
import Derived.Test.YtahnnangdepkbaaIp
import Derived.Test.YtahnnangdepkbaaQd
import Derived.Test.YtahnnangdepkbaaKd
import Derived.Test.YtahnnangdepkbaaKl
namespace Go.Proofs.Ytahnnangdepkbaa
open Go.RowKit
set_option linter.unusedSimpArgs false
set_option linter.unusedVariables false
set_option linter.unusedSectionVars false
set_option maxRecDepth 20000
-- The multiplicative law.
set_option maxHeartbeats 1000000 in
theorem c_impl_standard_1 (c m : Int) (h1 : -9000000000000000000 ≤ m) (h2 : m ≤ 9000000000000000000) : AFn Try.prog 40 [.int .i64 c, .fptr (.int .i64 m)] (.bool (isNum m c)) := by
  refine AFn.of' ttOk (by decide) Try.func40 Try.ntmps40 (by rw [Try.results40]) (by rfl) (by rfl) (by simp) (by decide) (by simp only [go_sem, Nat.reduceAdd, ↓reduceIte]; rfl) mixed (fun C hP hM hC => ?_)
  (repeat (first | ((with_reducible refine rgn_cons rfl (fun K hK => ?_)); simp only [go_sem, seval, ↓reduceIte, decide_true, decide_false]; (first | refine hK _ _ _ (by simp only [go_sem, Nat.reduceEqDiff, ↓reduceIte]; rfl) ?_ | refine ⟨_, c_impl_isNumber c m h1 h2, hK _ _ _ (by simp only [go_sem, Nat.reduceEqDiff, ↓reduceIte]; rfl) ?_⟩); clear hK; clear K) | (with_reducible first | refine rgn_nil (by first | trivial | kernel_rfl) ?_ | refine AWP.seq ?_ | refine tX hC hP (by kernel_rfl) ?_ | refine aX hC hM hP (by kernel_rfl) ?_ | refine AWP.skip ?_ | refine AWP.label ?_ | refine AWP.exit ?_ | refine AWP.block ?_ | refine cTa ?_ | refine cFa ?_) | simp only [qS, Nat.reduceEqDiff, ↓reduceIte]))
  (refine AWP.ret ?_; refine retOk1 (by simp only [go_sem, seval, ↓reduceIte, decide_true, decide_false]; rfl) ?_)
  rfl
set_option maxHeartbeats 1000000 in
theorem c_impl_standard (m d c : Int) (hm : 2 ≤ m) (hm2 : m ≤ 10000) (hd : 1 ≤ d) (hd2 : d ≤ 10) (hc : 0 ≤ c) (hc2 : c < m) : AFn Try.prog 15 [.int .i64 m, .int .i64 d, .sl false 2 (intL [c])] (.int .i64 0) := by
  refine AFn.of' ttOk (by decide) Try.func15 Try.ntmps15 (by rw [Try.results15]) (by rfl) (by rfl) (by simp) (by decide) (by simp only [go_sem, Nat.reduceAdd, ↓reduceIte]; rfl) mixed (fun C hP hM hC => ?_)
  have h1 := c_impl_IsModulus m
  rw [show (decide (2 ≤ m) && decide (m ≤ 10000)) = true by simp [hm, hm2]] at h1
  have h2 := c_impl_in d 1 10
  rw [show (decide (1 ≤ d) && decide (d ≤ 10)) = true by simp [hd, hd2]] at h2
  have h3 := c_impl_all_int64 [c] (by simp) 40 [.fptr (.int .i64 m)] (by decide) (by rfl) (by rfl) (fun c => rfl) (fun x => isNum m x) (fun x _ => c_impl_standard_1 x m (by omega) (by omega))
  rw [show [c].all (fun x => isNum m x) = true by simp [isNum]; omega] at h3
  (repeat (first | ((with_reducible refine rgn_cons rfl (fun K hK => ?_)); simp only [go_sem, seval, ↓reduceIte, decide_true, decide_false]; (first | refine hK _ _ _ (by simp only [go_sem, Nat.reduceEqDiff, ↓reduceIte]; rfl) ?_ | refine ⟨_, h1, hK _ _ _ (by simp only [go_sem, Nat.reduceEqDiff, ↓reduceIte]; rfl) ?_⟩ | refine ⟨_, h2, hK _ _ _ (by simp only [go_sem, Nat.reduceEqDiff, ↓reduceIte]; rfl) ?_⟩ | refine ⟨_, h3, hK _ _ _ (by simp only [go_sem, Nat.reduceEqDiff, ↓reduceIte]; rfl) ?_⟩); clear hK; clear K) | (with_reducible first | refine rgn_nil (by first | trivial | kernel_rfl) ?_ | refine AWP.seq ?_ | refine tX hC hP (by kernel_rfl) ?_ | refine aX hC hM hP (by kernel_rfl) ?_ | refine AWP.skip ?_ | refine AWP.label ?_ | refine AWP.exit ?_ | refine AWP.block ?_ | refine cTa ?_ | refine cFa ?_) | simp only [qS, Nat.reduceEqDiff, ↓reduceIte]))
  (refine AWP.ret ?_; refine retOk1 (by simp only [go_sem, seval, ↓reduceIte, decide_true, decide_false]; rfl) ?_)
  rfl
set_option maxHeartbeats 1000000 in
theorem c_impl_Plane_scaled_1 (m : Int) (la : List (List Int)) (c : Int) (n i j : Nat) (hm : 0 < m) (hm2 : m ≤ 10000) (ha : Pl m n la) (hij : i + j < n) : AFn Try.prog 49 [.int .i64 i, .int .i64 j, .fptr (.agg [.int .i64 m, .sl false 27 (rowsF la)]), .fptr (.int .i64 c)] (.int .i64 (c % m * pc la i j % m)) := by
  refine AFn.of' ttOk (by decide) Try.func49 Try.ntmps49 (by rw [Try.results49]) (by rfl) (by rfl) (by simp) (by decide) (by simp only [go_sem, Nat.reduceAdd, ↓reduceIte]; rfl) mixed (fun C hP hM hC => ?_)
  have h1 := ha.num i j
  have r1 := ha.row i (by omega)
  have k1 : j < (la.getD i []).length := by omega
  have hc := emod_b c m hm
  have hM1 := c_impl_mod c m hm (by omega)
  have hM2 := c_impl_mul m (c % m) (pc la i j) hm (by omega) hc.1 hc.2 h1.1 h1.2
  (repeat (first | ((with_reducible refine rgn_cons rfl (fun K hK => ?_)); simp only [go_sem, seval, ↓reduceIte, decide_true, decide_false, rowsF_getD la i (by rw [ha.len]; omega), rowsF_length, ha.len, Int.toNat_natCast, Int.natCast_nonneg, show (i : Int) < (n : Int) by omega, r1, show (j : Int) < ((n - i : Nat) : Int) by omega, intL_getD _ j k1, show (la.getD i []).getD j 0 = pc la i j from rfl]; (first | refine hK _ _ _ (by simp only [go_sem, Nat.reduceEqDiff, ↓reduceIte]; rfl) ?_ | refine ⟨_, hM1, hK _ _ _ (by simp only [go_sem, Nat.reduceEqDiff, ↓reduceIte]; rfl) ?_⟩ | refine ⟨_, hM2, hK _ _ _ (by simp only [go_sem, Nat.reduceEqDiff, ↓reduceIte]; rfl) ?_⟩); clear hK; clear K) | (with_reducible first | refine rgn_nil (by first | trivial | kernel_rfl) ?_ | refine AWP.seq ?_ | refine tX hC hP (by kernel_rfl) ?_ | refine aX hC hM hP (by kernel_rfl) ?_ | refine AWP.skip ?_ | refine AWP.label ?_ | refine AWP.exit ?_ | refine AWP.block ?_ | refine cTa ?_ | refine cFa ?_) | simp only [qS, Nat.reduceEqDiff, ↓reduceIte]))
  (refine AWP.ret ?_; refine retOk1 (by simp only [go_sem, seval, ↓reduceIte, decide_true, decide_false]; rfl) ?_)
  rfl
set_option maxHeartbeats 4000000 in
theorem c_impl_Plane_mapped_sc (m : Int) (la : List (List Int)) (c : Int) (n : Nat) (hm : 0 < m) (hm2 : m ≤ 10000) (ha : Pl m n la) (hn : 1 ≤ n) (hn2 : n ≤ 1000) : AFn Try.prog 44 [.agg [.int .i64 m, .sl false 27 (rowsF la)], .fn 49 [.fptr (.agg [.int .i64 m, .sl false 27 (rowsF la)]), .fptr (.int .i64 c)]] (.agg [.int .i64 m, .sl true 27 (rowsO (tab2 n (fun u v => c % m * pc la u v % m % m)))]) := by
  refine AFn.of' ttOk (by decide) Try.func44 Try.ntmps44 (by rw [Try.results44]) (by rfl) (by rfl) (by simp) (by decide) (by simp only [go_sem, Nat.reduceAdd, ↓reduceIte]; rfl) mixed (fun C hP hM hC => ?_)
  have hZ0 := c_impl_emptyPlane m (n - 1) (by omega)
  rw [show n - 1 + 1 = n by omega] at hZ0
  have e0 : tab2 n (fun _ _ => 0) = tab2 n (upt (fun u v => c % m * pc la u v % m % m) (fun _ _ => 0) 0 0) := tab2_congr fun u v _ => by rw [upt_start]
  rw [e0] at hZ0
  have hD := c_impl_Plane_degree m la (by rw [ha.len]; omega)
  rw [ha.len, show (n : Int) - 1 = ((n - 1 : Nat) : Int) by omega] at hD
  (repeat (first | ((with_reducible refine rgn_cons rfl (fun K hK => ?_)); simp only [go_sem, seval, ↓reduceIte, decide_true, decide_false, rowsO_length, tab2_length]; (first | refine hK _ _ _ (by simp only [go_sem, Nat.reduceEqDiff, ↓reduceIte]; rfl) ?_ | refine ⟨_, hD, hK _ _ _ (by simp only [go_sem, Nat.reduceEqDiff, ↓reduceIte]; rfl) ?_⟩ | refine ⟨_, hZ0, hK _ _ _ (by simp only [go_sem, Nat.reduceEqDiff, ↓reduceIte]; rfl) ?_⟩); clear hK; clear K) | (with_reducible first | refine rgn_nil (by first | trivial | kernel_rfl) ?_ | refine AWP.seq ?_ | refine tX hC hP (by kernel_rfl) ?_ | refine aX hC hM hP (by kernel_rfl) ?_ | refine AWP.skip ?_ | refine AWP.label ?_ | refine AWP.exit ?_ | refine AWP.block ?_ | refine cTa ?_ | refine cFa ?_) | simp only [qS, Nat.reduceEqDiff, ↓reduceIte]))
  refine AWP.loop (fun i : Nat => [(17, ⟨0, .val (.int .i64 i)⟩), (16, ⟨0, .val (.int .i64 n)⟩), (15, ⟨0, .val (.ref 5 2 [0, 1])⟩), (5, ⟨2, .own (.box 31 (.agg [.int .i64 m, .sl true 27 (rowsO (tab2 n (upt (fun u v => c % m * pc la u v % m % m) (fun _ _ => 0) i 0)))]))⟩), (1, ⟨0, .val (.fn 49 [.fptr (.agg [.int .i64 m, .sl false 27 (rowsF la)]), .fptr (.int .i64 c)])⟩), (2, ⟨1, .own (.box 31 (.agg [.int .i64 m, .sl false 27 (rowsF la)]))⟩), (4, ⟨1, .own (.box 31 (.agg [.int .i64 0, .nil]))⟩)]) (fun i => i ≤ n) (fun i => n - i) 0 (Nat.zero_le _) (fun i => rfl) ?_ (fun i hi => ?_)
  · simp [Sub, lk]
  · by_cases hin : i < n
    · have hi1 : i < (tab2 n (upt (fun u v => c % m * pc la u v % m % m) (fun _ _ => 0) i 0)).length := by rw [tab2_length]; exact hin
      (repeat (first | ((with_reducible refine rgn_cons rfl (fun K hK => ?_)); simp only [go_sem, seval, ↓reduceIte, decide_true, decide_false, show (i : Int) < (n : Int) by omega, decide_true, rowsO_at _ _ hi1, rowsO_sizeT _ _ (Nat.le_of_lt hi1), rowsO_length, tab2_length, tab2_row hin, tab_length, Nat.mul_one, Int.toNat_natCast, Int.natCast_nonneg]; (refine hK _ _ _ (by simp only [go_sem, Nat.reduceEqDiff, ↓reduceIte]; rfl) ?_); clear hK; clear K) | (with_reducible first | refine rgn_nil (by first | trivial | kernel_rfl) ?_ | refine AWP.seq ?_ | refine tX hC hP (by kernel_rfl) ?_ | refine aX hC hM hP (by kernel_rfl) ?_ | refine AWP.skip ?_ | refine AWP.label ?_ | refine AWP.exit ?_ | refine AWP.block ?_ | refine cTa ?_ | refine cFa ?_) | simp only [qS, Nat.reduceEqDiff, ↓reduceIte]))
      refine AWP.loop (fun j : Nat => [(24, ⟨0, .val (.int .i64 j)⟩), (23, ⟨0, .val (.int .i64 (n - i : Nat))⟩), (7, ⟨0, .val (.ref 5 2 [0, 1, i])⟩), (6, ⟨0, .val (.int .i64 i)⟩), (17, ⟨0, .val (.int .i64 i)⟩), (16, ⟨0, .val (.int .i64 n)⟩), (15, ⟨0, .val (.ref 5 2 [0, 1])⟩), (5, ⟨2, .own (.box 31 (.agg [.int .i64 m, .sl true 27 (rowsO (tab2 n (upt (fun u v => c % m * pc la u v % m % m) (fun _ _ => 0) i j)))]))⟩), (1, ⟨0, .val (.fn 49 [.fptr (.agg [.int .i64 m, .sl false 27 (rowsF la)]), .fptr (.int .i64 c)])⟩), (2, ⟨1, .own (.box 31 (.agg [.int .i64 m, .sl false 27 (rowsF la)]))⟩), (4, ⟨1, .own (.box 31 (.agg [.int .i64 0, .nil]))⟩)]) (fun j => i + j ≤ n) (fun j => n - j) 0 (by omega) (fun i => rfl) ?_ (fun j hj => ?_)
      · simp [Sub, lk]
      · by_cases hjn : i + j < n
        · have hi2 : i < (tab2 n (upt (fun u v => c % m * pc la u v % m % m) (fun _ _ => 0) i j)).length := by rw [tab2_length]; exact hin
          have hc : j < (tab (n - i) (upt (fun u v => c % m * pc la u v % m % m) (fun _ _ => 0) i j i)).length := by rw [tab_length]; omega
          have hP1 := c_impl_Plane_scaled_1 m la c n i j hm hm2 ha hjn
          have h1 := ha.num i j
          have hMd := c_impl_mod (c % m * pc la i j % m) m hm (by omega)
          have hst : (tab2 n (upt (fun u v => c % m * pc la u v % m % m) (fun _ _ => 0) i j)).set i ((tab (n - i) (upt (fun u v => c % m * pc la u v % m % m) (fun _ _ => 0) i j i)).set j (c % m * pc la i j % m % m)) = tab2 n (upt (fun u v => c % m * pc la u v % m % m) (fun _ _ => 0) i (j + 1)) := tab2_set (fun a b _ => upt_set _ _ i j a b)
          (repeat (first | ((with_reducible refine rgn_cons rfl (fun K hK => ?_)); simp only [go_sem, seval, ↓reduceIte, decide_true, decide_false, show (j : Int) < ((n - i : Nat) : Int) by omega, decide_true, rowsO_at _ _ hi2, rowsO_sizeT _ _ (Nat.le_of_lt hi2), rowsO_length, tab2_length, tab2_row hin, Nat.mul_one, intL_get _ _ hc, sizeL_take _ _ (Nat.le_of_lt hc), tab_length, Int.toNat_natCast, Int.natCast_nonneg, rowsO_modify _ _ _ _ hi2, hst, wid ((j : Int) + 1) (by omega) (by omega)]; (first | refine hK _ _ _ (by simp only [go_sem, Nat.reduceEqDiff, ↓reduceIte]; rfl) ?_ | refine ⟨_, hP1, hK _ _ _ (by simp only [go_sem, Nat.reduceEqDiff, ↓reduceIte]; rfl) ?_⟩ | refine ⟨_, hMd, hK _ _ _ (by simp only [go_sem, Nat.reduceEqDiff, ↓reduceIte]; rfl) ?_⟩); clear hK; clear K) | (with_reducible first | refine rgn_nil (by first | trivial | kernel_rfl) ?_ | refine AWP.seq ?_ | refine tX hC hP (by kernel_rfl) ?_ | refine aX hC hM hP (by kernel_rfl) ?_ | refine AWP.skip ?_ | refine AWP.label ?_ | refine AWP.exit ?_ | refine AWP.block ?_ | refine cTa ?_ | refine cFa ?_) | simp only [qS, Nat.reduceEqDiff, ↓reduceIte]))
          exact ⟨j + 1, by omega, by omega, by simp [Sub, lk]⟩
        · have hE : tab2 n (upt (fun u v => c % m * pc la u v % m % m) (fun _ _ => 0) i j) = tab2 n (upt (fun u v => c % m * pc la u v % m % m) (fun _ _ => 0) (i + 1) 0) := tab2_congr fun u v huv => upt_row (by omega) huv
          (repeat (first | ((with_reducible refine rgn_cons rfl (fun K hK => ?_)); simp only [go_sem, seval, ↓reduceIte, decide_true, decide_false, show ¬ (j : Int) < ((n - i : Nat) : Int) by omega, decide_false, wid ((i : Int) + 1) (by omega) (by omega)]; (refine hK _ _ _ (by simp only [go_sem, Nat.reduceEqDiff, ↓reduceIte]; rfl) ?_); clear hK; clear K) | (with_reducible first | refine rgn_nil (by first | trivial | kernel_rfl) ?_ | refine AWP.seq ?_ | refine tX hC hP (by kernel_rfl) ?_ | refine aX hC hM hP (by kernel_rfl) ?_ | refine AWP.skip ?_ | refine AWP.label ?_ | refine AWP.exit ?_ | refine AWP.block ?_ | refine cTa ?_ | refine cFa ?_) | simp only [qS, Nat.reduceEqDiff, ↓reduceIte]))
          exact ⟨i + 1, by omega, by omega, by simp only [hE]; simp [Sub, lk]⟩
    · have hie : i = n := by omega
      subst hie
      (repeat (first | ((with_reducible refine rgn_cons rfl (fun K hK => ?_)); simp only [go_sem, seval, ↓reduceIte, decide_true, decide_false, show ¬ (i : Int) < (i : Int) by omega, decide_false]; (refine hK _ _ _ (by simp only [go_sem, Nat.reduceEqDiff, ↓reduceIte]; rfl) ?_); clear hK; clear K) | (with_reducible first | refine rgn_nil (by first | trivial | kernel_rfl) ?_ | refine AWP.seq ?_ | refine tX hC hP (by kernel_rfl) ?_ | refine aX hC hM hP (by kernel_rfl) ?_ | refine AWP.skip ?_ | refine AWP.label ?_ | refine AWP.exit ?_ | refine AWP.block ?_ | refine cTa ?_ | refine cFa ?_) | simp only [qS, Nat.reduceEqDiff, ↓reduceIte]))
      (refine AWP.ret ?_; refine retOk1 (by simp only [go_sem, seval, ↓reduceIte, decide_true, decide_false]; rfl) ?_)
      rw [show tab2 i (upt (fun u v => c % m * pc la u v % m % m) (fun _ _ => 0) i 0) = tab2 i (fun u v => c % m * pc la u v % m % m) from tab2_congr fun u v huv => upt_end huv]
set_option maxHeartbeats 1000000 in
theorem c_impl_Plane_scaled (m : Int) (la : List (List Int)) (c : Int) (n : Nat) (hm : 0 < m) (hm2 : m ≤ 10000) (ha : Pl m n la) (hn : 1 ≤ n) (hn2 : n ≤ 1000) : AFn Try.prog 19 [.agg [.int .i64 m, .sl false 27 (rowsF la)], .int .i64 c] (.agg [.int .i64 m, .sl true 27 (rowsO (tab2 n (fun u v => c % m * pc la u v % m % m)))]) := by
  refine AFn.of' ttOk (by decide) Try.func19 Try.ntmps19 (by rw [Try.results19]) (by rfl) (by rfl) (by simp) (by decide) (by simp only [go_sem, Nat.reduceAdd, ↓reduceIte]; rfl) mixed (fun C hP hM hC => ?_)
  (repeat (first | ((with_reducible refine rgn_cons rfl (fun K hK => ?_)); simp only [go_sem, seval, ↓reduceIte, decide_true, decide_false]; (first | refine hK _ _ _ (by simp only [go_sem, Nat.reduceEqDiff, ↓reduceIte]; rfl) ?_ | refine ⟨_, c_impl_Plane_mapped_sc m la c n hm hm2 ha hn hn2, hK _ _ _ (by simp only [go_sem, Nat.reduceEqDiff, ↓reduceIte]; rfl) ?_⟩); clear hK; clear K) | (with_reducible first | refine rgn_nil (by first | trivial | kernel_rfl) ?_ | refine AWP.seq ?_ | refine tX hC hP (by kernel_rfl) ?_ | refine aX hC hM hP (by kernel_rfl) ?_ | refine AWP.skip ?_ | refine AWP.label ?_ | refine AWP.exit ?_ | refine AWP.block ?_ | refine cTa ?_ | refine cFa ?_) | simp only [qS, Nat.reduceEqDiff, ↓reduceIte]))
  (refine AWP.ret ?_; refine retOk1 (by simp only [go_sem, seval, ↓reduceIte, decide_true, decide_false]; rfl) ?_)
  rfl
/-- A series on the first axis; on the second. -/
def axX (l : List Int) (i u v : Nat) : Int := if v = 0 ∧ u < i then at' l u else 0
def axY (l : List Int) (i u v : Nat) : Int := if u = 0 ∧ v < i then at' l v else 0
set_option maxHeartbeats 1000000 in
theorem c_impl_onAxis_x (m : Int) (l : List Int) (n : Nat) (hl : l.length = n) (hn : 1 ≤ n) (hn2 : n ≤ 900) : AFn Try.prog 43 [.agg [.int .i64 m, .sl false 2 (intL l)], .int .i64 0] (.agg [.int .i64 m, .sl true 27 (rowsO (tab2 n (axX l n)))]) := by
  refine AFn.of' ttOk (by decide) Try.func43 Try.ntmps43 (by rw [Try.results43]) (by rfl) (by rfl) (by simp) (by decide) (by simp only [go_sem, Nat.reduceAdd, ↓reduceIte]; rfl) mixed (fun C hP hM hC => ?_)
  have hZ0 := c_impl_emptyPlane m (n - 1) (by omega)
  rw [show n - 1 + 1 = n by omega, show tab2 n (fun _ _ => 0) = tab2 n (axX l 0) from tab2_congr fun u v _ => by simp [axX]] at hZ0
  have hD := c_impl_Series_degree m l (by omega)
  rw [hl, show (n : Int) - 1 = ((n - 1 : Nat) : Int) by omega] at hD
  (repeat (first | ((with_reducible refine rgn_cons rfl (fun K hK => ?_)); simp only [go_sem, seval, ↓reduceIte, decide_true, decide_false, hl]; (first | refine hK _ _ _ (by simp only [go_sem, Nat.reduceEqDiff, ↓reduceIte]; rfl) ?_ | refine ⟨_, hD, hK _ _ _ (by simp only [go_sem, Nat.reduceEqDiff, ↓reduceIte]; rfl) ?_⟩ | refine ⟨_, hZ0, hK _ _ _ (by simp only [go_sem, Nat.reduceEqDiff, ↓reduceIte]; rfl) ?_⟩); clear hK; clear K) | (with_reducible first | refine rgn_nil (by first | trivial | kernel_rfl) ?_ | refine AWP.seq ?_ | refine tX hC hP (by kernel_rfl) ?_ | refine aX hC hM hP (by kernel_rfl) ?_ | refine AWP.skip ?_ | refine AWP.label ?_ | refine AWP.exit ?_ | refine AWP.block ?_ | refine cTa ?_ | refine cFa ?_) | simp only [qS, Nat.reduceEqDiff, ↓reduceIte]))
  refine AWP.loop (fun i : Nat => [(16, ⟨0, .val (.int .i64 i)⟩), (15, ⟨0, .val (.int .i64 n)⟩), (14, ⟨0, .val (.sl false 2 (intL l))⟩), (5, ⟨2, .own (.box 31 (.agg [.int .i64 m, .sl true 27 (rowsO (tab2 n (axX l i)))]))⟩), (1, ⟨0, .val (.int .i64 0)⟩), (4, ⟨1, .own (.box 31 (.agg [.int .i64 0, .nil]))⟩)]) (fun i => i ≤ n) (fun i => n - i) 0 (Nat.zero_le _) (fun i => rfl) ?_ (fun i hi => ?_)
  · simp [Sub, lk]
  · by_cases hin : i < n
    · have hi1 : i < (tab2 n (axX l i)).length := by rw [tab2_length]; exact hin
      have hc : 0 < (tab (n - i) (axX l i i)).length := by rw [tab_length]; omega
      have hst : (tab2 n (axX l i)).set i ((tab (n - i) (axX l i i)).set 0 (at' l i)) = tab2 n (axX l (i + 1)) := tab2_set (fun a b _ => by
        unfold axX
        by_cases e : a = i ∧ b = 0
        · obtain ⟨rfl, rfl⟩ := e; simp
        · rw [if_neg e]
          by_cases h2 : b = 0 ∧ a < i
          · rw [if_pos h2, if_pos (by omega)]
          · rw [if_neg h2, if_neg (by omega)])
      (repeat (first | ((with_reducible refine rgn_cons rfl (fun K hK => ?_)); simp only [go_sem, seval, ↓reduceIte, decide_true, decide_false, show (i : Int) < (n : Int) by omega, decide_true, hl, intL_getD l i (by omega), show l.getD i 0 = at' l i from rfl, show ((0 : Int) == 0) = true from rfl, rowsO_at _ _ hi1, rowsO_sizeT _ _ (Nat.le_of_lt hi1), rowsO_length, tab2_length, tab2_row hin, tab_length, Nat.mul_one, Int.toNat_natCast, Int.natCast_nonneg, Int.le_refl, Int.toNat_zero, List.take_zero, Nat.zero_mul, show (0 : Int) < ((n - i : Nat) : Int) by omega, intL_get _ 0 hc, rowsO_modify _ _ _ _ hi1, hst, wid ((i : Int) + 1) (by omega) (by omega)]; (refine hK _ _ _ (by simp only [go_sem, Nat.reduceEqDiff, ↓reduceIte]; rfl) ?_); clear hK; clear K) | (with_reducible first | refine rgn_nil (by first | trivial | kernel_rfl) ?_ | refine AWP.seq ?_ | refine tX hC hP (by kernel_rfl) ?_ | refine aX hC hM hP (by kernel_rfl) ?_ | refine AWP.skip ?_ | refine AWP.label ?_ | refine AWP.exit ?_ | refine AWP.block ?_ | refine cTa ?_ | refine cFa ?_) | simp only [qS, Nat.reduceEqDiff, ↓reduceIte]))
      exact ⟨i + 1, hin, by omega, by simp [Sub, lk]⟩
    · have e : i = n := by omega
      subst e
      (repeat (first | ((with_reducible refine rgn_cons rfl (fun K hK => ?_)); simp only [go_sem, seval, ↓reduceIte, decide_true, decide_false, show ¬ (i : Int) < (i : Int) by omega, decide_false]; (refine hK _ _ _ (by simp only [go_sem, Nat.reduceEqDiff, ↓reduceIte]; rfl) ?_); clear hK; clear K) | (with_reducible first | refine rgn_nil (by first | trivial | kernel_rfl) ?_ | refine AWP.seq ?_ | refine tX hC hP (by kernel_rfl) ?_ | refine aX hC hM hP (by kernel_rfl) ?_ | refine AWP.skip ?_ | refine AWP.label ?_ | refine AWP.exit ?_ | refine AWP.block ?_ | refine cTa ?_ | refine cFa ?_) | simp only [qS, Nat.reduceEqDiff, ↓reduceIte]))
      (refine AWP.ret ?_; refine retOk1 (by simp only [go_sem, seval, ↓reduceIte, decide_true, decide_false]; rfl) ?_)
      rfl
set_option maxHeartbeats 1000000 in
theorem c_impl_onAxis_y (m : Int) (l : List Int) (n : Nat) (hl : l.length = n) (hn : 1 ≤ n) (hn2 : n ≤ 900) : AFn Try.prog 43 [.agg [.int .i64 m, .sl false 2 (intL l)], .int .i64 1] (.agg [.int .i64 m, .sl true 27 (rowsO (tab2 n (axY l n)))]) := by
  refine AFn.of' ttOk (by decide) Try.func43 Try.ntmps43 (by rw [Try.results43]) (by rfl) (by rfl) (by simp) (by decide) (by simp only [go_sem, Nat.reduceAdd, ↓reduceIte]; rfl) mixed (fun C hP hM hC => ?_)
  have hZ0 := c_impl_emptyPlane m (n - 1) (by omega)
  rw [show n - 1 + 1 = n by omega, show tab2 n (fun _ _ => 0) = tab2 n (axY l 0) from tab2_congr fun u v _ => by simp [axY]] at hZ0
  have hD := c_impl_Series_degree m l (by omega)
  rw [hl, show (n : Int) - 1 = ((n - 1 : Nat) : Int) by omega] at hD
  (repeat (first | ((with_reducible refine rgn_cons rfl (fun K hK => ?_)); simp only [go_sem, seval, ↓reduceIte, decide_true, decide_false, hl]; (first | refine hK _ _ _ (by simp only [go_sem, Nat.reduceEqDiff, ↓reduceIte]; rfl) ?_ | refine ⟨_, hD, hK _ _ _ (by simp only [go_sem, Nat.reduceEqDiff, ↓reduceIte]; rfl) ?_⟩ | refine ⟨_, hZ0, hK _ _ _ (by simp only [go_sem, Nat.reduceEqDiff, ↓reduceIte]; rfl) ?_⟩); clear hK; clear K) | (with_reducible first | refine rgn_nil (by first | trivial | kernel_rfl) ?_ | refine AWP.seq ?_ | refine tX hC hP (by kernel_rfl) ?_ | refine aX hC hM hP (by kernel_rfl) ?_ | refine AWP.skip ?_ | refine AWP.label ?_ | refine AWP.exit ?_ | refine AWP.block ?_ | refine cTa ?_ | refine cFa ?_) | simp only [qS, Nat.reduceEqDiff, ↓reduceIte]))
  refine AWP.loop (fun i : Nat => [(16, ⟨0, .val (.int .i64 i)⟩), (15, ⟨0, .val (.int .i64 n)⟩), (14, ⟨0, .val (.sl false 2 (intL l))⟩), (5, ⟨2, .own (.box 31 (.agg [.int .i64 m, .sl true 27 (rowsO (tab2 n (axY l i)))]))⟩), (1, ⟨0, .val (.int .i64 1)⟩), (4, ⟨1, .own (.box 31 (.agg [.int .i64 0, .nil]))⟩)]) (fun i => i ≤ n) (fun i => n - i) 0 (Nat.zero_le _) (fun i => rfl) ?_ (fun i hi => ?_)
  · simp [Sub, lk]
  · by_cases hin : i < n
    · have hi1 : 0 < (tab2 n (axY l i)).length := by rw [tab2_length]; omega
      have hc : i < (tab (n - 0) (axY l i 0)).length := by rw [tab_length]; omega
      have hst : (tab2 n (axY l i)).set 0 ((tab (n - 0) (axY l i 0)).set i (at' l i)) = tab2 n (axY l (i + 1)) := tab2_set (fun a b _ => by
        unfold axY
        by_cases e : a = 0 ∧ b = i
        · obtain ⟨rfl, rfl⟩ := e; simp
        · rw [if_neg e]
          by_cases h2 : a = 0 ∧ b < i
          · rw [if_pos h2, if_pos (by omega)]
          · rw [if_neg h2, if_neg (by omega)])
      (repeat (first | ((with_reducible refine rgn_cons rfl (fun K hK => ?_)); simp only [go_sem, seval, ↓reduceIte, decide_true, decide_false, show (i : Int) < (n : Int) by omega, decide_true, hl, intL_getD l i (by omega), show l.getD i 0 = at' l i from rfl, show ((1 : Int) == 0) = false from rfl, rowsO_at _ _ hi1, rowsO_sizeT _ _ (Nat.le_of_lt hi1), rowsO_length, tab2_length, tab2_row (show 0 < n by omega), tab_length, Nat.mul_one, Int.toNat_natCast, Int.natCast_nonneg, Int.le_refl, Int.toNat_zero, List.take_zero, Nat.zero_mul, Nat.sub_zero, show (0 : Int) < (n : Int) by omega, intL_get _ _ (show i < (tab n (axY l i 0)).length by rw [tab_length]; omega), sizeL_take _ _ (show i ≤ (tab n (axY l i 0)).length by rw [tab_length]; omega), rowsO_modify _ _ _ _ hi1, show (tab2 n (axY l i)).set 0 ((tab n (axY l i 0)).set i (at' l i)) = tab2 n (axY l (i + 1)) from hst, wid ((i : Int) + 1) (by omega) (by omega)]; (refine hK _ _ _ (by simp only [go_sem, Nat.reduceEqDiff, ↓reduceIte]; rfl) ?_); clear hK; clear K) | (with_reducible first | refine rgn_nil (by first | trivial | kernel_rfl) ?_ | refine AWP.seq ?_ | refine tX hC hP (by kernel_rfl) ?_ | refine aX hC hM hP (by kernel_rfl) ?_ | refine AWP.skip ?_ | refine AWP.label ?_ | refine AWP.exit ?_ | refine AWP.block ?_ | refine cTa ?_ | refine cFa ?_) | simp only [qS, Nat.reduceEqDiff, ↓reduceIte]))
      exact ⟨i + 1, hin, by omega, by simp [Sub, lk]⟩
    · have e : i = n := by omega
      subst e
      (repeat (first | ((with_reducible refine rgn_cons rfl (fun K hK => ?_)); simp only [go_sem, seval, ↓reduceIte, decide_true, decide_false, show ¬ (i : Int) < (i : Int) by omega, decide_false]; (refine hK _ _ _ (by simp only [go_sem, Nat.reduceEqDiff, ↓reduceIte]; rfl) ?_); clear hK; clear K) | (with_reducible first | refine rgn_nil (by first | trivial | kernel_rfl) ?_ | refine AWP.seq ?_ | refine tX hC hP (by kernel_rfl) ?_ | refine aX hC hM hP (by kernel_rfl) ?_ | refine AWP.skip ?_ | refine AWP.label ?_ | refine AWP.exit ?_ | refine AWP.block ?_ | refine cTa ?_ | refine cFa ?_) | simp only [qS, Nat.reduceEqDiff, ↓reduceIte]))
      (refine AWP.ret ?_; refine retOk1 (by simp only [go_sem, seval, ↓reduceIte, decide_true, decide_false]; rfl) ?_)
      rfl
set_option maxHeartbeats 1000000 in
theorem c_impl_variables (m : Int) (d : Nat) (hd : 1 ≤ d) (hd2 : d ≤ 800) : AFn Try.prog 16 [.int .i64 m, .int .i64 d] (.tup [.agg [.int .i64 m, .sl true 27 (rowsO (tab2 (d + 1) (axX (varL d) (d + 1))))], .agg [.int .i64 m, .sl true 27 (rowsO (tab2 (d + 1) (axY (varL d) (d + 1))))]]) := by
  refine AFn.of' ttOk (by decide) Try.func16 Try.ntmps16 (by rw [Try.results16]) (by rfl) (by rfl) (by simp) (by decide) (by simp only [go_sem, Nat.reduceAdd, ↓reduceIte]; rfl) mixed (fun C hP hM hC => ?_)
  have hv := c_impl_variable m d hd (by omega)
  have hl : (varL d).length = d + 1 := tab_length _ _
  (repeat (first | ((with_reducible refine rgn_cons rfl (fun K hK => ?_)); simp only [go_sem, seval, ↓reduceIte, decide_true, decide_false]; (first | refine hK _ _ _ (by simp only [go_sem, Nat.reduceEqDiff, ↓reduceIte]; rfl) ?_ | refine ⟨_, hv, hK _ _ _ (by simp only [go_sem, Nat.reduceEqDiff, ↓reduceIte]; rfl) ?_⟩ | refine ⟨_, c_impl_onAxis_x m (varL d) (d + 1) hl (by omega) (by omega), hK _ _ _ (by simp only [go_sem, Nat.reduceEqDiff, ↓reduceIte]; rfl) ?_⟩ | refine ⟨_, c_impl_onAxis_y m (varL d) (d + 1) hl (by omega) (by omega), hK _ _ _ (by simp only [go_sem, Nat.reduceEqDiff, ↓reduceIte]; rfl) ?_⟩); clear hK; clear K) | (with_reducible first | refine rgn_nil (by first | trivial | kernel_rfl) ?_ | refine AWP.seq ?_ | refine tX hC hP (by kernel_rfl) ?_ | refine aX hC hM hP (by kernel_rfl) ?_ | refine AWP.skip ?_ | refine AWP.label ?_ | refine AWP.exit ?_ | refine AWP.block ?_ | refine cTa ?_ | refine cFa ?_) | simp only [qS, Nat.reduceEqDiff, ↓reduceIte]))
  (refine AWP.ret ?_; refine retOk2 (by simp only [go_sem, seval, ↓reduceIte, decide_true, decide_false]; rfl) (by simp only [go_sem, seval, ↓reduceIte, decide_true, decide_false]; rfl) (by simp) ?_)
  rfl
end Go.Proofs.Ytahnnangdepkbaa
