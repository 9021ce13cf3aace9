/-
  Sums of planes.
-/
import Derived.Test.YtapdekacpecgiaaGreatRn
import Derived.Test.YtapdekacpecgiaaGreatKe
namespace Go.Proofs.YtapdekacpecgiaaGreat
open Go.RowKit
set_option linter.unusedSimpArgs false
set_option linter.unusedVariables false
set_option linter.unusedSectionVars false
set_option maxRecDepth 20000
-- Sums of planes.
def upt (F G : Nat → Nat → Int) (i j u v : Nat) : Int := if u < i ∨ (u = i ∧ v < j) then F u v else G u v
theorem upt_start (F G : Nat → Nat → Int) (u v : Nat) : upt F G 0 0 u v = G u v := if_neg (by omega)
theorem upt_at (F G : Nat → Nat → Int) (i j : Nat) : upt F G i j i j = G i j := if_neg (by omega)
theorem upt_set (F G : Nat → Nat → Int) (i j u v : Nat) : (if u = i ∧ v = j then F i j else upt F G i j u v) = upt F G i (j + 1) u v := by
  unfold upt
  by_cases h : u = i ∧ v = j
  · rw [if_pos h, if_pos (by omega), h.1, h.2]
  · rw [if_neg h]
    by_cases h2 : u < i ∨ (u = i ∧ v < j)
    · rw [if_pos h2, if_pos (by omega)]
    · rw [if_neg h2, if_neg (by omega)]
theorem upt_row {F G : Nat → Nat → Int} {n i j u v : Nat} (h : n ≤ i + j) (huv : u + v < n) : upt F G i j u v = upt F G (i + 1) 0 u v := by
  unfold upt
  by_cases h2 : u < i ∨ (u = i ∧ v < j)
  · rw [if_pos h2, if_pos (by omega)]
  · rw [if_neg h2, if_neg (by omega)]
theorem upt_end {F G : Nat → Nat → Int} {n u v : Nat} (huv : u + v < n) : upt F G n 0 u v = F u v := if_pos (by omega)
theorem rowsO_ns (ll : List (List Int)) (h : 0 < ll.length) : ∃ x, x ∈ rowsO ll ∧ x.scalar = false := by
  cases ll with
  | nil => simp at h
  | cons x l => exact ⟨_, List.mem_cons_self .., rfl⟩
set_option maxHeartbeats 1000000 in
theorem c_impl_Plane_plus_1 (m : Int) (la lb : List (List Int)) (n i j : Nat) (hm2 : m ≤ 10000) (ha : Pl m n la) (hb : Pl m n lb) (hij : i + j < n) : AFn Tryz.prog 211 [.int .i64 i, .int .i64 j, .fptr (.agg [.int .i64 m, .sl false 27 (rowsF la)]), .fptr (.agg [.int .i64 m, .sl false 27 (rowsF lb)])] (.int .i64 (pc la i j + pc lb i j)) := by
  refine AFn.of' ttOk (by decide) Tryz.func211 Tryz.ntmps211 (by rw [Tryz.results211]) (by rfl) (by rfl) (by simp) (by decide) (by simp only [go_sem, Nat.reduceAdd, ↓reduceIte]; rfl) mixed (fun C hP hM hC => ?_)
  have h1 := ha.num i j
  have h2 := hb.num i j
  have r1 := ha.row i (by omega)
  have r2 := hb.row i (by omega)
  have k1 : j < (la.getD i []).length := by omega
  have k2 : j < (lb.getD i []).length := by omega
  (repeat (first | ((with_reducible refine rgn_cons rfl (fun K hK => ?_)); simp only [go_sem, seval, ↓reduceIte, decide_true, decide_false, rowsF_getD la i (by rw [ha.len]; omega), rowsF_getD lb i (by rw [hb.len]; omega), rowsF_length, ha.len, hb.len, Int.toNat_natCast, Int.natCast_nonneg, show (i : Int) < (n : Int) by omega, intL_getD _ j k1, intL_getD _ j k2, r1, r2, show ((j : Nat) : Int) < ((n - i : Nat) : Int) by omega, show (la.getD i []).getD j 0 = pc la i j from rfl, show (lb.getD i []).getD j 0 = pc lb i j from rfl, wid (pc la i j + pc lb i j) (by omega) (by omega)]; (refine hK _ _ _ (by simp only [go_sem, Nat.reduceEqDiff, ↓reduceIte]; rfl) ?_); clear hK; clear K) | (with_reducible first | refine rgn_nil (by first | trivial | kernel_rfl) ?_ | refine AWP.seq ?_ | refine tX hC hP (by kernel_rfl) ?_ | refine aX hC hM hP (by kernel_rfl) ?_ | refine AWP.skip ?_ | refine AWP.label ?_ | refine AWP.exit ?_ | refine AWP.block ?_ | refine cTa ?_ | refine cFa ?_) | simp only [qS, Nat.reduceEqDiff, ↓reduceIte]))
  (refine AWP.ret ?_; refine retOk1 (by simp only [go_sem, seval, ↓reduceIte, decide_true, decide_false]; rfl) ?_)
  rfl
set_option maxHeartbeats 4000000 in
theorem c_impl_Plane_mapped (m : Int) (la lb : List (List Int)) (n : Nat) (hm : 0 < m) (hm2 : m ≤ 10000) (ha : Pl m n la) (hb : Pl m n lb) (hn : 1 ≤ n) (hn2 : n ≤ 1000) : AFn Tryz.prog 201 [.agg [.int .i64 m, .sl false 27 (rowsF la)], .fn 211 [.fptr (.agg [.int .i64 m, .sl false 27 (rowsF la)]), .fptr (.agg [.int .i64 m, .sl false 27 (rowsF lb)])]] (.agg [.int .i64 m, .sl true 27 (rowsO (tab2 n (fun u v => (pc la u v + pc lb u v) % m)))]) := by
  refine AFn.of' ttOk (by decide) Tryz.func201 Tryz.ntmps201 (by rw [Tryz.results201]) (by rfl) (by rfl) (by simp) (by decide) (by simp only [go_sem, Nat.reduceAdd, ↓reduceIte]; rfl) mixed (fun C hP hM hC => ?_)
  have hZ0 := c_impl_emptyPlane m (n - 1) (by omega)
  rw [show n - 1 + 1 = n by omega] at hZ0
  have e0 : tab2 n (fun _ _ => 0) = tab2 n (upt (fun u v => (pc la u v + pc lb u v) % m) (fun _ _ => 0) 0 0) := tab2_congr fun u v _ => by rw [upt_start]
  rw [e0] at hZ0
  have hD := c_impl_Plane_degree m la (by rw [ha.len]; omega)
  rw [ha.len, show (n : Int) - 1 = ((n - 1 : Nat) : Int) by omega] at hD
  (repeat (first | ((with_reducible refine rgn_cons rfl (fun K hK => ?_)); simp only [go_sem, seval, ↓reduceIte, decide_true, decide_false, rowsO_length, tab2_length]; (first | refine hK _ _ _ (by simp only [go_sem, Nat.reduceEqDiff, ↓reduceIte]; rfl) ?_ | refine ⟨_, hD, hK _ _ _ (by simp only [go_sem, Nat.reduceEqDiff, ↓reduceIte]; rfl) ?_⟩ | refine ⟨_, hZ0, hK _ _ _ (by simp only [go_sem, Nat.reduceEqDiff, ↓reduceIte]; rfl) ?_⟩); clear hK; clear K) | (with_reducible first | refine rgn_nil (by first | trivial | kernel_rfl) ?_ | refine AWP.seq ?_ | refine tX hC hP (by kernel_rfl) ?_ | refine aX hC hM hP (by kernel_rfl) ?_ | refine AWP.skip ?_ | refine AWP.label ?_ | refine AWP.exit ?_ | refine AWP.block ?_ | refine cTa ?_ | refine cFa ?_) | simp only [qS, Nat.reduceEqDiff, ↓reduceIte]))
  refine AWP.loop (fun i : Nat => [(17, ⟨0, .val (.int .i64 i)⟩), (16, ⟨0, .val (.int .i64 n)⟩), (15, ⟨0, .val (.ref 5 2 [0, 1])⟩), (5, ⟨2, .own (.box 26 (.agg [.int .i64 m, .sl true 27 (rowsO (tab2 n (upt (fun u v => (pc la u v + pc lb u v) % m) (fun _ _ => 0) i 0)))]))⟩), (1, ⟨0, .val (.fn 211 [.fptr (.agg [.int .i64 m, .sl false 27 (rowsF la)]), .fptr (.agg [.int .i64 m, .sl false 27 (rowsF lb)])])⟩), (2, ⟨1, .own (.box 26 (.agg [.int .i64 m, .sl false 27 (rowsF la)]))⟩), (4, ⟨1, .own (.box 26 (.agg [.int .i64 0, .nil]))⟩)]) (fun i => i ≤ n) (fun i => n - i) 0 (Nat.zero_le _) (fun i => rfl) ?_ (fun i hi => ?_)
  · simp [Sub, lk]
  · by_cases hin : i < n
    · have hi1 : i < (tab2 n (upt (fun u v => (pc la u v + pc lb u v) % m) (fun _ _ => 0) i 0)).length := by rw [tab2_length]; exact hin
      (repeat (first | ((with_reducible refine rgn_cons rfl (fun K hK => ?_)); simp only [go_sem, seval, ↓reduceIte, decide_true, decide_false, show (i : Int) < (n : Int) by omega, decide_true, rowsO_at _ _ hi1, rowsO_sizeT _ _ (Nat.le_of_lt hi1), rowsO_length, tab2_length, tab2_row hin, tab_length, Nat.mul_one, Int.toNat_natCast, Int.natCast_nonneg]; (refine hK _ _ _ (by simp only [go_sem, Nat.reduceEqDiff, ↓reduceIte]; rfl) ?_); clear hK; clear K) | (with_reducible first | refine rgn_nil (by first | trivial | kernel_rfl) ?_ | refine AWP.seq ?_ | refine tX hC hP (by kernel_rfl) ?_ | refine aX hC hM hP (by kernel_rfl) ?_ | refine AWP.skip ?_ | refine AWP.label ?_ | refine AWP.exit ?_ | refine AWP.block ?_ | refine cTa ?_ | refine cFa ?_) | simp only [qS, Nat.reduceEqDiff, ↓reduceIte]))
      refine AWP.loop (fun j : Nat => [(24, ⟨0, .val (.int .i64 j)⟩), (23, ⟨0, .val (.int .i64 (n - i : Nat))⟩), (7, ⟨0, .val (.ref 5 2 [0, 1, i])⟩), (6, ⟨0, .val (.int .i64 i)⟩), (17, ⟨0, .val (.int .i64 i)⟩), (16, ⟨0, .val (.int .i64 n)⟩), (15, ⟨0, .val (.ref 5 2 [0, 1])⟩), (5, ⟨2, .own (.box 26 (.agg [.int .i64 m, .sl true 27 (rowsO (tab2 n (upt (fun u v => (pc la u v + pc lb u v) % m) (fun _ _ => 0) i j)))]))⟩), (1, ⟨0, .val (.fn 211 [.fptr (.agg [.int .i64 m, .sl false 27 (rowsF la)]), .fptr (.agg [.int .i64 m, .sl false 27 (rowsF lb)])])⟩), (2, ⟨1, .own (.box 26 (.agg [.int .i64 m, .sl false 27 (rowsF la)]))⟩), (4, ⟨1, .own (.box 26 (.agg [.int .i64 0, .nil]))⟩)]) (fun j => i + j ≤ n) (fun j => n - j) 0 (by omega) (fun i => rfl) ?_ (fun j hj => ?_)
      · simp [Sub, lk]
      · by_cases hjn : i + j < n
        · have hi2 : i < (tab2 n (upt (fun u v => (pc la u v + pc lb u v) % m) (fun _ _ => 0) i j)).length := by rw [tab2_length]; exact hin
          have hc : j < (tab (n - i) (upt (fun u v => (pc la u v + pc lb u v) % m) (fun _ _ => 0) i j i)).length := by rw [tab_length]; omega
          have hP1 := c_impl_Plane_plus_1 m la lb n i j hm2 ha hb hjn
          have h1 := ha.num i j
          have h2 := hb.num i j
          have hMd := c_impl_mod (pc la i j + pc lb i j) m hm (by omega)
          have hst : (tab2 n (upt (fun u v => (pc la u v + pc lb u v) % m) (fun _ _ => 0) i j)).set i ((tab (n - i) (upt (fun u v => (pc la u v + pc lb u v) % m) (fun _ _ => 0) i j i)).set j ((pc la i j + pc lb i j) % m)) = tab2 n (upt (fun u v => (pc la u v + pc lb u v) % m) (fun _ _ => 0) i (j + 1)) := tab2_set (fun a b _ => upt_set _ _ i j a b)
          (repeat (first | ((with_reducible refine rgn_cons rfl (fun K hK => ?_)); simp only [go_sem, seval, ↓reduceIte, decide_true, decide_false, show (j : Int) < ((n - i : Nat) : Int) by omega, decide_true, rowsO_at _ _ hi2, rowsO_sizeT _ _ (Nat.le_of_lt hi2), rowsO_length, tab2_length, tab2_row hin, Nat.mul_one, intL_get _ _ hc, sizeL_take _ _ (Nat.le_of_lt hc), tab_length, Int.toNat_natCast, Int.natCast_nonneg, rowsO_modify _ _ _ _ hi2, hst, wid ((j : Int) + 1) (by omega) (by omega)]; (first | refine hK _ _ _ (by simp only [go_sem, Nat.reduceEqDiff, ↓reduceIte]; rfl) ?_ | refine ⟨_, hP1, hK _ _ _ (by simp only [go_sem, Nat.reduceEqDiff, ↓reduceIte]; rfl) ?_⟩ | refine ⟨_, hMd, hK _ _ _ (by simp only [go_sem, Nat.reduceEqDiff, ↓reduceIte]; rfl) ?_⟩); clear hK; clear K) | (with_reducible first | refine rgn_nil (by first | trivial | kernel_rfl) ?_ | refine AWP.seq ?_ | refine tX hC hP (by kernel_rfl) ?_ | refine aX hC hM hP (by kernel_rfl) ?_ | refine AWP.skip ?_ | refine AWP.label ?_ | refine AWP.exit ?_ | refine AWP.block ?_ | refine cTa ?_ | refine cFa ?_) | simp only [qS, Nat.reduceEqDiff, ↓reduceIte]))
          exact ⟨j + 1, by omega, by omega, by simp [Sub, lk]⟩
        · have hE : tab2 n (upt (fun u v => (pc la u v + pc lb u v) % m) (fun _ _ => 0) i j) = tab2 n (upt (fun u v => (pc la u v + pc lb u v) % m) (fun _ _ => 0) (i + 1) 0) := tab2_congr fun u v huv => upt_row (by omega) huv
          (repeat (first | ((with_reducible refine rgn_cons rfl (fun K hK => ?_)); simp only [go_sem, seval, ↓reduceIte, decide_true, decide_false, show ¬ (j : Int) < ((n - i : Nat) : Int) by omega, decide_false, wid ((i : Int) + 1) (by omega) (by omega)]; (refine hK _ _ _ (by simp only [go_sem, Nat.reduceEqDiff, ↓reduceIte]; rfl) ?_); clear hK; clear K) | (with_reducible first | refine rgn_nil (by first | trivial | kernel_rfl) ?_ | refine AWP.seq ?_ | refine tX hC hP (by kernel_rfl) ?_ | refine aX hC hM hP (by kernel_rfl) ?_ | refine AWP.skip ?_ | refine AWP.label ?_ | refine AWP.exit ?_ | refine AWP.block ?_ | refine cTa ?_ | refine cFa ?_) | simp only [qS, Nat.reduceEqDiff, ↓reduceIte]))
          exact ⟨i + 1, by omega, by omega, by simp only [hE]; simp [Sub, lk]⟩
    · have hie : i = n := by omega
      subst hie
      (repeat (first | ((with_reducible refine rgn_cons rfl (fun K hK => ?_)); simp only [go_sem, seval, ↓reduceIte, decide_true, decide_false, show ¬ (i : Int) < (i : Int) by omega, decide_false]; (refine hK _ _ _ (by simp only [go_sem, Nat.reduceEqDiff, ↓reduceIte]; rfl) ?_); clear hK; clear K) | (with_reducible first | refine rgn_nil (by first | trivial | kernel_rfl) ?_ | refine AWP.seq ?_ | refine tX hC hP (by kernel_rfl) ?_ | refine aX hC hM hP (by kernel_rfl) ?_ | refine AWP.skip ?_ | refine AWP.label ?_ | refine AWP.exit ?_ | refine AWP.block ?_ | refine cTa ?_ | refine cFa ?_) | simp only [qS, Nat.reduceEqDiff, ↓reduceIte]))
      (refine AWP.ret ?_; refine retOk1 (by simp only [go_sem, seval, ↓reduceIte, decide_true, decide_false]; rfl) ?_)
      rw [show tab2 i (upt (fun u v => (pc la u v + pc lb u v) % m) (fun _ _ => 0) i 0) = tab2 i (fun u v => (pc la u v + pc lb u v) % m) from tab2_congr fun u v huv => upt_end huv]
set_option maxHeartbeats 1000000 in
theorem c_impl_Plane_plus (m : Int) (la lb : List (List Int)) (n : Nat) (hm : 0 < m) (hm2 : m ≤ 10000) (ha : Pl m n la) (hb : Pl m n lb) (hn : 1 ≤ n) (hn2 : n ≤ 1000) : AFn Tryz.prog 124 [.agg [.int .i64 m, .sl false 27 (rowsF la)], .agg [.int .i64 m, .sl false 27 (rowsF lb)]] (.agg [.int .i64 m, .sl true 27 (rowsO (tab2 n (fun u v => (pc la u v + pc lb u v) % m)))]) := by
  refine AFn.of' ttOk (by decide) Tryz.func124 Tryz.ntmps124 (by rw [Tryz.results124]) (by rfl) (by rfl) (by simp) (by decide) (by simp only [go_sem, Nat.reduceAdd, ↓reduceIte]; rfl) mixed (fun C hP hM hC => ?_)
  (repeat (first | ((with_reducible refine rgn_cons rfl (fun K hK => ?_)); simp only [go_sem, seval, ↓reduceIte, decide_true, decide_false]; (first | refine hK _ _ _ (by simp only [go_sem, Nat.reduceEqDiff, ↓reduceIte]; rfl) ?_ | refine ⟨_, c_impl_Plane_mapped m la lb n hm hm2 ha hb hn hn2, hK _ _ _ (by simp only [go_sem, Nat.reduceEqDiff, ↓reduceIte]; rfl) ?_⟩); clear hK; clear K) | (with_reducible first | refine rgn_nil (by first | trivial | kernel_rfl) ?_ | refine AWP.seq ?_ | refine tX hC hP (by kernel_rfl) ?_ | refine aX hC hM hP (by kernel_rfl) ?_ | refine AWP.skip ?_ | refine AWP.label ?_ | refine AWP.exit ?_ | refine AWP.block ?_ | refine cTa ?_ | refine cFa ?_) | simp only [qS, Nat.reduceEqDiff, ↓reduceIte]))
  (refine AWP.ret ?_; refine retOk1 (by simp only [go_sem, seval, ↓reduceIte, decide_true, decide_false]; rfl) ?_)
  rfl
end Go.Proofs.YtapdekacpecgiaaGreat
