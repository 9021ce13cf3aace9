/-
  The program's planes of curves.
-/
import Derived.Test.YtapdekacpecgiaaGreatIb
import Derived.Test.YtapdekacpecgiaaGreatQb
namespace Go.Proofs.YtapdekacpecgiaaGreat
open Go.RowKit
set_option linter.unusedSimpArgs false
set_option linter.unusedVariables false
set_option linter.unusedSectionVars false
set_option maxRecDepth 20000
-- The program's planes of curves.
set_option maxHeartbeats 4000000 in
theorem c_impl_Plane_addOuter (m : Int) (ll : List (List Int)) (a b : List Int) (n : Nat) (hm : 0 < m) (hm2 : m ≤ 10000) (hl : Pl m n ll) (ha : ∀ x ∈ a, 0 ≤ x ∧ x < m) (hal : a.length = n) (hb : ∀ x ∈ b, 0 ≤ x ∧ x < m) (hbl : b.length = n) (hn : 1 ≤ n) (hn2 : n ≤ 1000) : AFn Tryz.prog (8000000 + 174) [.int .i64 0, .agg [.int .i64 m, .sl true 27 (rowsO ll)], .agg [.int .i64 m, .sl false 2 (intL a)], .agg [.int .i64 m, .sl false 2 (intL b)]] (.tup [.tup [], .agg [.int .i64 m, .sl true 27 (rowsO (tab2 n (fun u v => (pc ll u v + at' a u * at' b v % m) % m)))]]) := by
  have hm0 : m ≠ 0 := by omega
  refine AFn_x.2 (AFx.ofBox' (d := 3) ttOk md Tryz.func174 Tryz.ntmps174 (by rw [Tryz.results174]) (by rfl) (by rfl) (by decide) (by simp) (by decide) (by rfl) (by rfl) (by rfl) (by kernel_rfl) (by kernel_rfl) (by rw [rowsO_length, rowsO_length, tab2_length, hl.len]) (by simp only [T.noF, rowsO_noF, Bool.and_self]) rfl mixed (fun C hP hM hC => ?_))
  obtain ⟨t, ht⟩ : ∃ t, t = pc ll := ⟨_, rfl⟩
  have e0 : ll = tab2 n (upt (fun u v => (t u v + at' a u * at' b v % m) % m) t 0 0) := by
    rw [show tab2 n (upt (fun u v => (t u v + at' a u * at' b v % m) % m) t 0 0) = tab2 n t from tab2_congr fun u v _ => upt_start _ _ _ _, ht]
    exact hl.eq
  have hnum : ∀ i j, 0 ≤ t i j ∧ t i j < m := by rw [ht]; exact hl.num
  rw [← ht]
  generalize (pc ll) = t9 at *
  rw [e0]
  (repeat (first | ((with_reducible refine rgn_cons rfl (fun K hK => ?_)); simp only [go_sem, seval, ↓reduceIte, decide_true, decide_false, rowsO_length, tab2_length]; (refine hK _ _ _ (by simp only [go_sem, Nat.reduceEqDiff, ↓reduceIte]; rfl) ?_); clear hK; clear K) | (with_reducible first | refine rgn_nil (by first | trivial | kernel_rfl) ?_ | refine AWP.seq ?_ | refine tX hC hP (by kernel_rfl) ?_ | refine aX hC hM hP (by kernel_rfl) ?_ | refine AWP.skip ?_ | refine AWP.label ?_ | refine AWP.exit ?_ | refine AWP.block ?_ | refine cTa ?_ | refine cFa ?_) | simp only [qS, Nat.reduceEqDiff, ↓reduceIte]))
  refine AWP.loop (fun i : Nat => [(12, ⟨0, .val (.int .i64 i)⟩), (11, ⟨0, .val (.int .i64 n)⟩), (10, ⟨0, .val (.ref 3 0 [0, 1])⟩), (3, ⟨0, .own (.box 26 (.agg [.int .i64 m, .sl true 27 (rowsO (tab2 n (upt (fun u v => (t u v + at' a u * at' b v % m) % m) t i 0)))]))⟩), (4, ⟨1, .own (.box 29 (.agg [.int .i64 m, .sl false 2 (intL a)]))⟩), (5, ⟨1, .own (.box 29 (.agg [.int .i64 m, .sl false 2 (intL b)]))⟩)]) (fun i => i ≤ n) (fun i => n - i) 0 (Nat.zero_le _) (fun i => rfl) ?_ (fun i hi => ?_)
  · simp [Sub, lk]
  · by_cases hin : i < n
    · have hi1 : i < (tab2 n (upt (fun u v => (t u v + at' a u * at' b v % m) % m) t i 0)).length := by rw [tab2_length]; exact hin
      (repeat (first | ((with_reducible refine rgn_cons rfl (fun K hK => ?_)); simp only [go_sem, seval, ↓reduceIte, decide_true, decide_false, show (i : Int) < (n : Int) by omega, decide_true, rowsO_at _ _ hi1, rowsO_sizeT _ _ (Nat.le_of_lt hi1), rowsO_length, tab2_length, tab2_row hin, tab_length, Nat.mul_one, Int.toNat_natCast, Int.natCast_nonneg]; (refine hK _ _ _ (by simp only [go_sem, Nat.reduceEqDiff, ↓reduceIte]; rfl) ?_); clear hK; clear K) | (with_reducible first | refine rgn_nil (by first | trivial | kernel_rfl) ?_ | refine AWP.seq ?_ | refine tX hC hP (by kernel_rfl) ?_ | refine aX hC hM hP (by kernel_rfl) ?_ | refine AWP.skip ?_ | refine AWP.label ?_ | refine AWP.exit ?_ | refine AWP.block ?_ | refine cTa ?_ | refine cFa ?_) | simp only [qS, Nat.reduceEqDiff, ↓reduceIte]))
      refine AWP.loop (fun j : Nat => [(19, ⟨0, .val (.int .i64 j)⟩), (18, ⟨0, .val (.int .i64 (n - i : Nat))⟩), (7, ⟨0, .val (.ref 3 0 [0, 1, i])⟩), (6, ⟨0, .val (.int .i64 i)⟩), (12, ⟨0, .val (.int .i64 i)⟩), (11, ⟨0, .val (.int .i64 n)⟩), (10, ⟨0, .val (.ref 3 0 [0, 1])⟩), (3, ⟨0, .own (.box 26 (.agg [.int .i64 m, .sl true 27 (rowsO (tab2 n (upt (fun u v => (t u v + at' a u * at' b v % m) % m) t i j)))]))⟩), (4, ⟨1, .own (.box 29 (.agg [.int .i64 m, .sl false 2 (intL a)]))⟩), (5, ⟨1, .own (.box 29 (.agg [.int .i64 m, .sl false 2 (intL b)]))⟩)]) (fun j => i + j ≤ n) (fun j => n - j) 0 (by omega) (fun i => rfl) ?_ (fun j hj => ?_)
      · simp [Sub, lk]
      · by_cases hjn : i + j < n
        · have hi2 : i < (tab2 n (upt (fun u v => (t u v + at' a u * at' b v % m) % m) t i j)).length := by rw [tab2_length]; exact hin
          have hc : j < (tab (n - i) (upt (fun u v => (t u v + at' a u * at' b v % m) % m) t i j i)).length := by rw [tab_length]; omega
          have g1 : (tab (n - i) (upt (fun u v => (t u v + at' a u * at' b v % m) % m) t i j i)).getD j 0 = t i j := by rw [tab_getD (by omega), upt_at]
          have h1 := hnum i j
          have h2 := at_bound ha hm i
          have h3 := at_bound hb hm j
          have hMl := c_impl_mul m (at' a i) (at' b j) hm (by omega) h2.1 h2.2 h3.1 h3.2
          have h4 := emod_b (at' a i * at' b j) m hm
          have hst : (tab2 n (upt (fun u v => (t u v + at' a u * at' b v % m) % m) t i j)).set i ((tab (n - i) (upt (fun u v => (t u v + at' a u * at' b v % m) % m) t i j i)).set j ((t i j + at' a i * at' b j % m) % m)) = tab2 n (upt (fun u v => (t u v + at' a u * at' b v % m) % m) t i (j + 1)) := tab2_set (fun x y _ => upt_set _ _ i j x y)
          (repeat (first | ((with_reducible refine rgn_cons rfl (fun K hK => ?_)); simp only [go_sem, seval, ↓reduceIte, decide_true, decide_false, show (j : Int) < ((n - i : Nat) : Int) by omega, decide_true, rowsO_at _ _ hi2, rowsO_sizeT _ _ (Nat.le_of_lt hi2), rowsO_length, tab2_length, tab2_row hin, Nat.mul_one, intL_get _ _ hc, sizeL_take _ _ (Nat.le_of_lt hc), tab_length, g1, Int.toNat_natCast, Int.natCast_nonneg, hal, hbl, show (i : Int) < (n : Int) by omega, show (j : Int) < (n : Int) by omega, intL_getD a i (by omega), intL_getD b j (by omega), show a.getD i 0 = at' a i from rfl, show b.getD j 0 = at' b j from rfl, wid (t i j + at' a i * at' b j % m) (by omega) (by omega), tm (t i j + at' a i * at' b j % m) m (by omega), hm0, rowsO_modify _ _ _ _ hi2, hst, wid ((j : Int) + 1) (by omega) (by omega)]; (first | refine hK _ _ _ (by simp only [go_sem, Nat.reduceEqDiff, ↓reduceIte]; rfl) ?_ | refine ⟨_, hMl, hK _ _ _ (by simp only [go_sem, Nat.reduceEqDiff, ↓reduceIte]; rfl) ?_⟩); clear hK; clear K) | (with_reducible first | refine rgn_nil (by first | trivial | kernel_rfl) ?_ | refine AWP.seq ?_ | refine tX hC hP (by kernel_rfl) ?_ | refine aX hC hM hP (by kernel_rfl) ?_ | refine AWP.skip ?_ | refine AWP.label ?_ | refine AWP.exit ?_ | refine AWP.block ?_ | refine cTa ?_ | refine cFa ?_) | simp only [qS, Nat.reduceEqDiff, ↓reduceIte]))
          exact ⟨j + 1, by omega, by omega, by simp [Sub, lk]⟩
        · have hE : tab2 n (upt (fun u v => (t u v + at' a u * at' b v % m) % m) t i j) = tab2 n (upt (fun u v => (t u v + at' a u * at' b v % m) % m) t (i + 1) 0) := tab2_congr fun u v huv => upt_row (by omega) huv
          (repeat (first | ((with_reducible refine rgn_cons rfl (fun K hK => ?_)); simp only [go_sem, seval, ↓reduceIte, decide_true, decide_false, show ¬ (j : Int) < ((n - i : Nat) : Int) by omega, decide_false, wid ((i : Int) + 1) (by omega) (by omega)]; (refine hK _ _ _ (by simp only [go_sem, Nat.reduceEqDiff, ↓reduceIte]; rfl) ?_); clear hK; clear K) | (with_reducible first | refine rgn_nil (by first | trivial | kernel_rfl) ?_ | refine AWP.seq ?_ | refine tX hC hP (by kernel_rfl) ?_ | refine aX hC hM hP (by kernel_rfl) ?_ | refine AWP.skip ?_ | refine AWP.label ?_ | refine AWP.exit ?_ | refine AWP.block ?_ | refine cTa ?_ | refine cFa ?_) | simp only [qS, Nat.reduceEqDiff, ↓reduceIte]))
          exact ⟨i + 1, by omega, by omega, by simp only [hE]; simp [Sub, lk]⟩
    · have hie : i = n := by omega
      subst hie
      (repeat (first | ((with_reducible refine rgn_cons rfl (fun K hK => ?_)); simp only [go_sem, seval, ↓reduceIte, decide_true, decide_false, show ¬ (i : Int) < (i : Int) by omega, decide_false]; (refine hK _ _ _ (by simp only [go_sem, Nat.reduceEqDiff, ↓reduceIte]; rfl) ?_); clear hK; clear K) | (with_reducible first | refine rgn_nil (by first | trivial | kernel_rfl) ?_ | refine AWP.seq ?_ | refine tX hC hP (by kernel_rfl) ?_ | refine aX hC hM hP (by kernel_rfl) ?_ | refine AWP.skip ?_ | refine AWP.label ?_ | refine AWP.exit ?_ | refine AWP.block ?_ | refine cTa ?_ | refine cFa ?_) | simp only [qS, Nat.reduceEqDiff, ↓reduceIte]))
      refine endQB_nor ?_
      rw [show tab2 i (fun u v => (t u v + at' a u * at' b v % m) % m) = tab2 i (upt (fun u v => (t u v + at' a u * at' b v % m) % m) t i 0) from tab2_congr fun u v huv => by rw [upt_end huv]]
      rfl
set_option maxHeartbeats 4000000 in
theorem c_impl_Plane_both (m : Int) (ll : List (List Int)) (a b : List Int) (n : Nat) (hm : 1 < m) (hm2 : m ≤ 10000) (hl : Pl m n ll) (ha : ∀ x ∈ a, 0 ≤ x ∧ x < m) (hal : a.length = n) (hb : ∀ x ∈ b, 0 ≤ x ∧ x < m) (hbl : b.length = n) (hn : 1 ≤ n) (hn2 : n ≤ 1000) : AFn Tryz.prog 72 [.agg [.int .i64 m, .sl false 27 (rowsF ll)], .agg [.int .i64 m, .sl false 2 (intL a)], .agg [.int .i64 m, .sl false 2 (intL b)]] (.agg [.int .i64 m, .sl true 27 (rowsO (bthT m n (pc ll) (pwC m a (n - 1)) (pwC m b (n - 1))))]) := by
  refine AFn.of' ttOk (by decide) Tryz.func72 Tryz.ntmps72 (by rw [Tryz.results72]) (by rfl) (by rfl) (by simp) (by decide) (by simp only [go_sem, Nat.reduceAdd, ↓reduceIte]; rfl) mixed (fun C hP hM hC => ?_)
  have h0 := c_impl_Plane_number m 0 ll n (by omega) hm2 hl.len hn hn2
  have e0 : numP m 0 n = tab2 n (fun u v => sij n (pc ll) (pwC m a (n - 1)) (pwC m b (n - 1)) 0 0 u v % m) := tab2_congr fun u v _ => by rw [sij_zero, Int.zero_emod]; split <;> simp
  rw [e0] at h0
  have hpa := c_impl_Series_powers m a (n - 1) hm hm2 ha (by omega) (by omega)
  have hpb := c_impl_Series_powers m b (n - 1) hm hm2 hb (by omega) (by omega)
  rw [show n - 1 + 1 = n by omega] at hpa hpb
  (repeat (first | ((with_reducible refine rgn_cons rfl (fun K hK => ?_)); simp only [go_sem, seval, ↓reduceIte, decide_true, decide_false, rowsF_length, hl.len]; (first | refine hK _ _ _ (by simp only [go_sem, Nat.reduceEqDiff, ↓reduceIte]; rfl) ?_ | refine ⟨_, h0, hK _ _ _ (by simp only [go_sem, Nat.reduceEqDiff, ↓reduceIte]; rfl) ?_⟩ | refine ⟨_, hpa, hK _ _ _ (by simp only [go_sem, Nat.reduceEqDiff, ↓reduceIte]; rfl) ?_⟩ | refine ⟨_, hpb, hK _ _ _ (by simp only [go_sem, Nat.reduceEqDiff, ↓reduceIte]; rfl) ?_⟩); clear hK; clear K) | (with_reducible first | refine rgn_nil (by first | trivial | kernel_rfl) ?_ | refine AWP.seq ?_ | refine tX hC hP (by kernel_rfl) ?_ | refine aX hC hM hP (by kernel_rfl) ?_ | refine AWP.skip ?_ | refine AWP.label ?_ | refine AWP.exit ?_ | refine AWP.block ?_ | refine cTa ?_ | refine cFa ?_) | simp only [qS, Nat.reduceEqDiff, ↓reduceIte]))
  refine AWP.loop (fun w : Nat × Nat => [(23, ⟨0, .val (.int .i64 w.1)⟩), (22, ⟨0, .val (.int .i64 n)⟩), (21, ⟨0, .val (.sl false 27 (rowsF ll))⟩), (7, ⟨w.2, .own (.box 26 (.agg [.int .i64 m, .sl true 27 (rowsO (tab2 n (fun u v => sij n (pc ll) (pwC m a (n - 1)) (pwC m b (n - 1)) w.1 0 u v % m)))]))⟩), (8, ⟨1, .own (.sl true 29 (serO m (pwSL m a (n - 1) n)))⟩), (9, ⟨1, .own (.sl true 29 (serO m (pwSL m b (n - 1) n)))⟩), (3, ⟨1, .own (.box 26 (.agg [.int .i64 m, .sl false 27 (rowsF ll)]))⟩), (6, ⟨1, .own (.box 26 (.agg [.int .i64 0, .nil]))⟩)]) (fun w => w.1 ≤ n) (fun w => n - w.1) (0, 2) (Nat.zero_le _) (fun i => rfl) ?_ (fun w hw => ?_)
  · simp [Sub, lk]
  · obtain ⟨i, v⟩ := w
    simp only at hw ⊢
    by_cases hin : i < n
    · have hrow := hl.row i hin
      (repeat (first | ((with_reducible refine rgn_cons rfl (fun K hK => ?_)); simp only [go_sem, seval, ↓reduceIte, decide_true, decide_false, show (i : Int) < (n : Int) by omega, decide_true, rowsF_getD ll i (by rw [hl.len]; exact hin), rowsF_length, hl.len, Int.toNat_natCast, Int.natCast_nonneg, hrow]; (refine hK _ _ _ (by simp only [go_sem, Nat.reduceEqDiff, ↓reduceIte]; rfl) ?_); clear hK; clear K) | (with_reducible first | refine rgn_nil (by first | trivial | kernel_rfl) ?_ | refine AWP.seq ?_ | refine tX hC hP (by kernel_rfl) ?_ | refine aX hC hM hP (by kernel_rfl) ?_ | refine AWP.skip ?_ | refine AWP.label ?_ | refine AWP.exit ?_ | refine AWP.block ?_ | refine cTa ?_ | refine cFa ?_) | simp only [qS, Nat.reduceEqDiff, ↓reduceIte]))
      refine AWP.loop (fun w : Nat × Nat => [(30, ⟨0, .val (.int .i64 w.1)⟩), (29, ⟨0, .val (.int .i64 (n - i : Nat))⟩), (28, ⟨0, .val (.sl false 2 (intL (ll.getD i [])))⟩), (10, ⟨0, .val (.int .i64 i)⟩), (23, ⟨0, .val (.int .i64 i)⟩), (22, ⟨0, .val (.int .i64 n)⟩), (21, ⟨0, .val (.sl false 27 (rowsF ll))⟩), (7, ⟨w.2, .own (.box 26 (.agg [.int .i64 m, .sl true 27 (rowsO (tab2 n (fun u v => sij n (pc ll) (pwC m a (n - 1)) (pwC m b (n - 1)) i w.1 u v % m)))]))⟩), (8, ⟨1, .own (.sl true 29 (serO m (pwSL m a (n - 1) n)))⟩), (9, ⟨1, .own (.sl true 29 (serO m (pwSL m b (n - 1) n)))⟩), (3, ⟨1, .own (.box 26 (.agg [.int .i64 m, .sl false 27 (rowsF ll)]))⟩), (6, ⟨1, .own (.box 26 (.agg [.int .i64 0, .nil]))⟩)]) (fun w => i + w.1 ≤ n) (fun w => n - w.1) (0, v) (by simp only; omega) (fun i => rfl) ?_ (fun w hw => ?_)
      · simp [Sub, lk]
      · obtain ⟨j, v⟩ := w
        simp only at hw ⊢
        by_cases hjn : i + j < n
        · have hj1 : j < (ll.getD i []).length := by omega
          have hx := hl.num i j
          by_cases h00 : pc ll i j = 0
          · have hE : tab2 n (fun u v => sij n (pc ll) (pwC m a (n - 1)) (pwC m b (n - 1)) i (j + 1) u v % m) = tab2 n (fun u v => sij n (pc ll) (pwC m a (n - 1)) (pwC m b (n - 1)) i j u v % m) := tab2_congr fun u v _ => by rw [sij_step, h00, Int.zero_mul, Int.add_zero]
            (repeat (first | ((with_reducible refine rgn_cons rfl (fun K hK => ?_)); simp only [go_sem, seval, ↓reduceIte, decide_true, decide_false, show (j : Int) < ((n - i : Nat) : Int) by omega, decide_true, Int.toNat_natCast, Int.natCast_nonneg, intL_getD _ j hj1, hrow, show (ll.getD i []).getD j 0 = pc ll i j from rfl, h00, show ((0 : Int) != 0) = false from rfl, wid ((j : Int) + 1) (by omega) (by omega)]; (refine hK _ _ _ (by simp only [go_sem, Nat.reduceEqDiff, ↓reduceIte]; rfl) ?_); clear hK; clear K) | (with_reducible first | refine rgn_nil (by first | trivial | kernel_rfl) ?_ | refine AWP.seq ?_ | refine tX hC hP (by kernel_rfl) ?_ | refine aX hC hM hP (by kernel_rfl) ?_ | refine AWP.skip ?_ | refine AWP.label ?_ | refine AWP.exit ?_ | refine AWP.block ?_ | refine cTa ?_ | refine cFa ?_) | simp only [qS, Nat.reduceEqDiff, ↓reduceIte]))
            exact ⟨(j + 1, v), by simp only; omega, by simp only; omega, by simp only [hE]; simp [Sub, lk]⟩
          · have hii : i < (pwSL m a (n - 1) n).length := by rw [pwSL_length]; exact hin
            have hjj : j < (pwSL m b (n - 1) n).length := by rw [pwSL_length]; omega
            have hp := pwS_facts hm a (n - 1) i
            have hq := pwS_facts hm b (n - 1) j
            have hS := c_impl_Series_scaled m (pc ll i j) (pwS m a (n - 1) i) (n - 1) (by omega) hm2 hp.2 (by omega) (by omega) hx.1 hx.2
            have hs2 := scL_num (show 0 < m by omega) (pc ll i j) (pwS m a (n - 1) i) (n - 1)
            have hT2 : Pl m n (tab2 n (fun u v => sij n (pc ll) (pwC m a (n - 1)) (pwC m b (n - 1)) i j u v % m)) := Pl.tab2 (by omega) fun _ _ _ => emod_b _ m (by omega)
            have hO := c_impl_Plane_addOuter m (tab2 n (fun u v => sij n (pc ll) (pwC m a (n - 1)) (pwC m b (n - 1)) i j u v % m)) (scL m (pc ll i j) (pwS m a (n - 1) i) (n - 1)) (pwS m b (n - 1) j) n (by omega) hm2 hT2 hs2.2 (by omega) hq.2 (by omega) hn hn2
            have hE : tab2 n (fun u v => (pc (tab2 n (fun u v => sij n (pc ll) (pwC m a (n - 1)) (pwC m b (n - 1)) i j u v % m)) u v + at' (scL m (pc ll i j) (pwS m a (n - 1) i) (n - 1)) u * at' (pwS m b (n - 1) j) v % m) % m) = tab2 n (fun u v => sij n (pc ll) (pwC m a (n - 1)) (pwC m b (n - 1)) i (j + 1) u v % m) := tab2_congr fun u v huv => by
              rw [pc_tab2 huv, sij_step, scL, at_tab (by omega), Int.add_emod_emod, Int.emod_add_emod]
              show (_ + _ * pwC m b (n - 1) j v) % m = _
              rw [show at' (pwS m a (n - 1) i) u = pwC m a (n - 1) i u from rfl, ← Int.mul_assoc, Int.add_emod, mul_emod_l, ← Int.add_emod]
            rw [hE] at hO
            (repeat (first | ((with_reducible refine rgn_cons rfl (fun K hK => ?_)); simp only [go_sem, seval, ↓reduceIte, decide_true, decide_false, show (j : Int) < ((n - i : Nat) : Int) by omega, decide_true, Int.toNat_natCast, Int.natCast_nonneg, intL_getD _ j hj1, hrow, show (ll.getD i []).getD j 0 = pc ll i j from rfl, show (pc ll i j != 0) = true by rw [bne_iff_ne]; exact h00, serO_length, pwSL_length, show (i : Int) < (n : Int) by omega, show (j : Int) < (n : Int) by omega, serO_at _ _ _ hii, serO_at _ _ _ hjj, serO_sizeT _ _ _ (Nat.le_of_lt hii), serO_sizeT _ _ _ (Nat.le_of_lt hjj), pwSL_getD (show i < n by omega), pwSL_getD (show j < n by omega), wid ((j : Int) + 1) (by omega) (by omega)]; (first | refine hK _ _ _ (by simp only [go_sem, Nat.reduceEqDiff, ↓reduceIte]; rfl) ?_ | refine ⟨_, hS, hK _ _ _ (by simp only [go_sem, Nat.reduceEqDiff, ↓reduceIte]; rfl) ?_⟩ | refine ⟨_, hO, hK _ _ _ (by simp only [go_sem, Nat.reduceEqDiff, ↓reduceIte]; rfl) ?_⟩); clear hK; clear K) | (with_reducible first | refine rgn_nil (by first | trivial | kernel_rfl) ?_ | refine AWP.seq ?_ | refine tX hC hP (by kernel_rfl) ?_ | refine aX hC hM hP (by kernel_rfl) ?_ | refine AWP.skip ?_ | refine AWP.label ?_ | refine AWP.exit ?_ | refine AWP.block ?_ | refine cTa ?_ | refine cFa ?_) | simp only [qS, Nat.reduceEqDiff, ↓reduceIte]))
            have hns := rowsO_ns (tab2 n (fun u v => sij n (pc ll) (pwC m a (n - 1)) (pwC m b (n - 1)) i (j + 1) u v % m)) (by rw [tab2_length]; omega)
            exact ⟨(j + 1, v + 1), by simp only; omega, by simp only; omega, by simp [Sub, lk]; exact hns⟩
        · have hE : tab2 n (fun u v => sij n (pc ll) (pwC m a (n - 1)) (pwC m b (n - 1)) i j u v % m) = tab2 n (fun u v => sij n (pc ll) (pwC m a (n - 1)) (pwC m b (n - 1)) (i + 1) 0 u v % m) := tab2_congr fun u v _ => by rw [show j = n - i by omega, sij_next]
          (repeat (first | ((with_reducible refine rgn_cons rfl (fun K hK => ?_)); simp only [go_sem, seval, ↓reduceIte, decide_true, decide_false, show ¬ (j : Int) < ((n - i : Nat) : Int) by omega, decide_false, wid ((i : Int) + 1) (by omega) (by omega)]; (refine hK _ _ _ (by simp only [go_sem, Nat.reduceEqDiff, ↓reduceIte]; rfl) ?_); clear hK; clear K) | (with_reducible first | refine rgn_nil (by first | trivial | kernel_rfl) ?_ | refine AWP.seq ?_ | refine tX hC hP (by kernel_rfl) ?_ | refine aX hC hM hP (by kernel_rfl) ?_ | refine AWP.skip ?_ | refine AWP.label ?_ | refine AWP.exit ?_ | refine AWP.block ?_ | refine cTa ?_ | refine cFa ?_) | simp only [qS, Nat.reduceEqDiff, ↓reduceIte]))
          exact ⟨(i + 1, v), by simp only; omega, by simp only; omega, by simp only [hE]; simp [Sub, lk]⟩
    · have hie : i = n := by omega
      subst hie
      (repeat (first | ((with_reducible refine rgn_cons rfl (fun K hK => ?_)); simp only [go_sem, seval, ↓reduceIte, decide_true, decide_false, show ¬ (i : Int) < (i : Int) by omega, decide_false]; (refine hK _ _ _ (by simp only [go_sem, Nat.reduceEqDiff, ↓reduceIte]; rfl) ?_); clear hK; clear K) | (with_reducible first | refine rgn_nil (by first | trivial | kernel_rfl) ?_ | refine AWP.seq ?_ | refine tX hC hP (by kernel_rfl) ?_ | refine aX hC hM hP (by kernel_rfl) ?_ | refine AWP.skip ?_ | refine AWP.label ?_ | refine AWP.exit ?_ | refine AWP.block ?_ | refine cTa ?_ | refine cFa ?_) | simp only [qS, Nat.reduceEqDiff, ↓reduceIte]))
      (refine AWP.ret ?_; refine retOk1 (by simp only [go_sem, seval, ↓reduceIte, decide_true, decide_false]; rfl) ?_)
      rfl
end Go.Proofs.YtapdekacpecgiaaGreat
