/-
  Planes of curves: the program and the reference.
-/
import Derived.Test.YtahnnangdepkbabIa
import Derived.Test.YtahnnangdepkbabRn
import Derived.Test.YtahnnangdepkbabKe
import Derived.Test.YtahnnangdepkbabKf
import Derived.Test.YtahnnangdepkbabKc
namespace Go.Proofs.Ytahnnangdepkbab
open Go.RowKit
set_option linter.unusedSimpArgs false
set_option linter.unusedVariables false
set_option linter.unusedSectionVars false
set_option maxRecDepth 20000
-- Planes of curves: the program and the reference.
/-- A table of which the places ahead of (i, j) are made anew. -/
def upt (F G : Nat → Nat → Int) (i j u v : Nat) : Int := if u < i ∨ (u = i ∧ v < j) then F u v else G u v
theorem upt_start (F G : Nat → Nat → Int) (u v : Nat) : upt F G 0 0 u v = G u v := if_neg (by omega)
theorem upt_at (F G : Nat → Nat → Int) (i j : Nat) : upt F G i j i j = G i j := if_neg (by omega)
theorem upt_set (F G : Nat → Nat → Int) (i j u v : Nat) : (if u = i ∧ v = j then F i j else upt F G i j u v) = upt F G i (j + 1) u v := by
  unfold upt
  by_cases h : u = i ∧ v = j
  · rw [if_pos h, if_pos (by omega), h.1, h.2]
  · rw [if_neg h]
    by_cases h2 : u < i ∨ (u = i ∧ v < j)
    · rw [if_pos h2, if_pos (by omega)]
    · rw [if_neg h2, if_neg (by omega)]
theorem upt_row {F G : Nat → Nat → Int} {n i j u v : Nat} (h : n ≤ i + j) (huv : u + v < n) : upt F G i j u v = upt F G (i + 1) 0 u v := by
  unfold upt
  by_cases h2 : u < i ∨ (u = i ∧ v < j)
  · rw [if_pos h2, if_pos (by omega)]
  · rw [if_neg h2, if_neg (by omega)]
theorem upt_end {F G : Nat → Nat → Int} {n u v : Nat} (huv : u + v < n) : upt F G n 0 u v = F u v := if_pos (by omega)
theorem rowsO_ns (ll : List (List Int)) (h : 0 < ll.length) : ∃ x, x ∈ rowsO ll ∧ x.scalar = false := by
  cases ll with
  | nil => simp at h
  | cons x l => exact ⟨_, List.mem_cons_self .., rfl⟩
set_option maxHeartbeats 1000000 in
theorem c_impl_Plane_plus_1 (m : Int) (la lb : List (List Int)) (n i j : Nat) (hm2 : m ≤ 10000) (ha : Pl m n la) (hb : Pl m n lb) (hij : i + j < n) : AFn Try.prog 86 [.int .i64 i, .int .i64 j, .fptr (.agg [.int .i64 m, .sl false 26 (rowsF la)]), .fptr (.agg [.int .i64 m, .sl false 26 (rowsF lb)])] (.int .i64 (pc la i j + pc lb i j)) := by
  refine AFn.of' ttOk (by decide) Try.func86 Try.ntmps86 (by rw [Try.results86]) (by rfl) (by rfl) (by simp) (by decide) (by simp only [go_sem, Nat.reduceAdd, ↓reduceIte]; rfl) mixed (fun C hP hM hC => ?_)
  have h1 := ha.num i j
  have h2 := hb.num i j
  have r1 := ha.row i (by omega)
  have r2 := hb.row i (by omega)
  have k1 : j < (la.getD i []).length := by omega
  have k2 : j < (lb.getD i []).length := by omega
  (repeat (first | ((with_reducible refine rgn_cons rfl (fun K hK => ?_)); simp only [go_sem, seval, ↓reduceIte, decide_true, decide_false, rowsF_getD la i (by rw [ha.len]; omega), rowsF_getD lb i (by rw [hb.len]; omega), rowsF_length, ha.len, hb.len, Int.toNat_natCast, Int.natCast_nonneg, show (i : Int) < (n : Int) by omega, intL_getD _ j k1, intL_getD _ j k2, r1, r2, show ((j : Nat) : Int) < ((n - i : Nat) : Int) by omega, show (la.getD i []).getD j 0 = pc la i j from rfl, show (lb.getD i []).getD j 0 = pc lb i j from rfl, wid (pc la i j + pc lb i j) (by omega) (by omega)]; (refine hK _ _ _ (by simp only [go_sem, Nat.reduceEqDiff, ↓reduceIte]; rfl) ?_); clear hK; clear K) | (with_reducible first | refine rgn_nil (by first | trivial | kernel_rfl) ?_ | refine AWP.seq ?_ | refine tX hC hP (by kernel_rfl) ?_ | refine aX hC hM hP (by kernel_rfl) ?_ | refine AWP.skip ?_ | refine AWP.label ?_ | refine AWP.exit ?_ | refine AWP.block ?_ | refine cTa ?_ | refine cFa ?_) | simp only [qS, Nat.reduceEqDiff, ↓reduceIte]))
  (refine AWP.ret ?_; refine retOk1 (by simp only [go_sem, seval, ↓reduceIte, decide_true, decide_false]; rfl) ?_)
  rfl
set_option maxHeartbeats 4000000 in
theorem c_impl_Plane_mapped (m : Int) (la lb : List (List Int)) (n : Nat) (hm : 0 < m) (hm2 : m ≤ 10000) (ha : Pl m n la) (hb : Pl m n lb) (hn : 1 ≤ n) (hn2 : n ≤ 1000) : AFn Try.prog 85 [.agg [.int .i64 m, .sl false 26 (rowsF la)], .fn 86 [.fptr (.agg [.int .i64 m, .sl false 26 (rowsF la)]), .fptr (.agg [.int .i64 m, .sl false 26 (rowsF lb)])]] (.agg [.int .i64 m, .sl true 26 (rowsO (tab2 n (fun u v => (pc la u v + pc lb u v) % m)))]) := by
  refine AFn.of' ttOk (by decide) Try.func85 Try.ntmps85 (by rw [Try.results85]) (by rfl) (by rfl) (by simp) (by decide) (by simp only [go_sem, Nat.reduceAdd, ↓reduceIte]; rfl) mixed (fun C hP hM hC => ?_)
  have hZ0 := c_impl_emptyPlane m (n - 1) (by omega)
  rw [show n - 1 + 1 = n by omega] at hZ0
  have e0 : tab2 n (fun _ _ => 0) = tab2 n (upt (fun u v => (pc la u v + pc lb u v) % m) (fun _ _ => 0) 0 0) := tab2_congr fun u v _ => by rw [upt_start]
  rw [e0] at hZ0
  have hD := c_impl_Plane_degree m la (by rw [ha.len]; omega)
  rw [ha.len, show (n : Int) - 1 = ((n - 1 : Nat) : Int) by omega] at hD
  (repeat (first | ((with_reducible refine rgn_cons rfl (fun K hK => ?_)); simp only [go_sem, seval, ↓reduceIte, decide_true, decide_false, rowsO_length, tab2_length]; (first | refine hK _ _ _ (by simp only [go_sem, Nat.reduceEqDiff, ↓reduceIte]; rfl) ?_ | refine ⟨_, hD, hK _ _ _ (by simp only [go_sem, Nat.reduceEqDiff, ↓reduceIte]; rfl) ?_⟩ | refine ⟨_, hZ0, hK _ _ _ (by simp only [go_sem, Nat.reduceEqDiff, ↓reduceIte]; rfl) ?_⟩); clear hK; clear K) | (with_reducible first | refine rgn_nil (by first | trivial | kernel_rfl) ?_ | refine AWP.seq ?_ | refine tX hC hP (by kernel_rfl) ?_ | refine aX hC hM hP (by kernel_rfl) ?_ | refine AWP.skip ?_ | refine AWP.label ?_ | refine AWP.exit ?_ | refine AWP.block ?_ | refine cTa ?_ | refine cFa ?_) | simp only [qS, Nat.reduceEqDiff, ↓reduceIte]))
  refine AWP.loop (fun i : Nat => [(17, ⟨0, .val (.int .i64 i)⟩), (16, ⟨0, .val (.int .i64 n)⟩), (15, ⟨0, .val (.ref 5 2 [0, 1])⟩), (5, ⟨2, .own (.box 31 (.agg [.int .i64 m, .sl true 26 (rowsO (tab2 n (upt (fun u v => (pc la u v + pc lb u v) % m) (fun _ _ => 0) i 0)))]))⟩), (1, ⟨0, .val (.fn 86 [.fptr (.agg [.int .i64 m, .sl false 26 (rowsF la)]), .fptr (.agg [.int .i64 m, .sl false 26 (rowsF lb)])])⟩), (2, ⟨1, .own (.box 31 (.agg [.int .i64 m, .sl false 26 (rowsF la)]))⟩), (4, ⟨1, .own (.box 31 (.agg [.int .i64 0, .nil]))⟩)]) (fun i => i ≤ n) (fun i => n - i) 0 (Nat.zero_le _) (fun i => rfl) ?_ (fun i hi => ?_)
  · simp [Sub, lk]
  · by_cases hin : i < n
    · have hi1 : i < (tab2 n (upt (fun u v => (pc la u v + pc lb u v) % m) (fun _ _ => 0) i 0)).length := by rw [tab2_length]; exact hin
      (repeat (first | ((with_reducible refine rgn_cons rfl (fun K hK => ?_)); simp only [go_sem, seval, ↓reduceIte, decide_true, decide_false, show (i : Int) < (n : Int) by omega, decide_true, rowsO_at _ _ hi1, rowsO_sizeT _ _ (Nat.le_of_lt hi1), rowsO_length, tab2_length, tab2_row hin, tab_length, Nat.mul_one, Int.toNat_natCast, Int.natCast_nonneg]; (refine hK _ _ _ (by simp only [go_sem, Nat.reduceEqDiff, ↓reduceIte]; rfl) ?_); clear hK; clear K) | (with_reducible first | refine rgn_nil (by first | trivial | kernel_rfl) ?_ | refine AWP.seq ?_ | refine tX hC hP (by kernel_rfl) ?_ | refine aX hC hM hP (by kernel_rfl) ?_ | refine AWP.skip ?_ | refine AWP.label ?_ | refine AWP.exit ?_ | refine AWP.block ?_ | refine cTa ?_ | refine cFa ?_) | simp only [qS, Nat.reduceEqDiff, ↓reduceIte]))
      refine AWP.loop (fun j : Nat => [(24, ⟨0, .val (.int .i64 j)⟩), (23, ⟨0, .val (.int .i64 (n - i : Nat))⟩), (7, ⟨0, .val (.ref 5 2 [0, 1, i])⟩), (6, ⟨0, .val (.int .i64 i)⟩), (17, ⟨0, .val (.int .i64 i)⟩), (16, ⟨0, .val (.int .i64 n)⟩), (15, ⟨0, .val (.ref 5 2 [0, 1])⟩), (5, ⟨2, .own (.box 31 (.agg [.int .i64 m, .sl true 26 (rowsO (tab2 n (upt (fun u v => (pc la u v + pc lb u v) % m) (fun _ _ => 0) i j)))]))⟩), (1, ⟨0, .val (.fn 86 [.fptr (.agg [.int .i64 m, .sl false 26 (rowsF la)]), .fptr (.agg [.int .i64 m, .sl false 26 (rowsF lb)])])⟩), (2, ⟨1, .own (.box 31 (.agg [.int .i64 m, .sl false 26 (rowsF la)]))⟩), (4, ⟨1, .own (.box 31 (.agg [.int .i64 0, .nil]))⟩)]) (fun j => i + j ≤ n) (fun j => n - j) 0 (by omega) (fun i => rfl) ?_ (fun j hj => ?_)
      · simp [Sub, lk]
      · by_cases hjn : i + j < n
        · have hi2 : i < (tab2 n (upt (fun u v => (pc la u v + pc lb u v) % m) (fun _ _ => 0) i j)).length := by rw [tab2_length]; exact hin
          have hc : j < (tab (n - i) (upt (fun u v => (pc la u v + pc lb u v) % m) (fun _ _ => 0) i j i)).length := by rw [tab_length]; omega
          have hP1 := c_impl_Plane_plus_1 m la lb n i j hm2 ha hb hjn
          have h1 := ha.num i j
          have h2 := hb.num i j
          have hMd := c_impl_mod (pc la i j + pc lb i j) m hm (by omega)
          have hst : (tab2 n (upt (fun u v => (pc la u v + pc lb u v) % m) (fun _ _ => 0) i j)).set i ((tab (n - i) (upt (fun u v => (pc la u v + pc lb u v) % m) (fun _ _ => 0) i j i)).set j ((pc la i j + pc lb i j) % m)) = tab2 n (upt (fun u v => (pc la u v + pc lb u v) % m) (fun _ _ => 0) i (j + 1)) := tab2_set (fun a b _ => upt_set _ _ i j a b)
          (repeat (first | ((with_reducible refine rgn_cons rfl (fun K hK => ?_)); simp only [go_sem, seval, ↓reduceIte, decide_true, decide_false, show (j : Int) < ((n - i : Nat) : Int) by omega, decide_true, rowsO_at _ _ hi2, rowsO_sizeT _ _ (Nat.le_of_lt hi2), rowsO_length, tab2_length, tab2_row hin, Nat.mul_one, intL_get _ _ hc, sizeL_take _ _ (Nat.le_of_lt hc), tab_length, Int.toNat_natCast, Int.natCast_nonneg, rowsO_modify _ _ _ _ hi2, hst, wid ((j : Int) + 1) (by omega) (by omega)]; (first | refine hK _ _ _ (by simp only [go_sem, Nat.reduceEqDiff, ↓reduceIte]; rfl) ?_ | refine ⟨_, hP1, hK _ _ _ (by simp only [go_sem, Nat.reduceEqDiff, ↓reduceIte]; rfl) ?_⟩ | refine ⟨_, hMd, hK _ _ _ (by simp only [go_sem, Nat.reduceEqDiff, ↓reduceIte]; rfl) ?_⟩); clear hK; clear K) | (with_reducible first | refine rgn_nil (by first | trivial | kernel_rfl) ?_ | refine AWP.seq ?_ | refine tX hC hP (by kernel_rfl) ?_ | refine aX hC hM hP (by kernel_rfl) ?_ | refine AWP.skip ?_ | refine AWP.label ?_ | refine AWP.exit ?_ | refine AWP.block ?_ | refine cTa ?_ | refine cFa ?_) | simp only [qS, Nat.reduceEqDiff, ↓reduceIte]))
          exact ⟨j + 1, by omega, by omega, by simp [Sub, lk]⟩
        · have hE : tab2 n (upt (fun u v => (pc la u v + pc lb u v) % m) (fun _ _ => 0) i j) = tab2 n (upt (fun u v => (pc la u v + pc lb u v) % m) (fun _ _ => 0) (i + 1) 0) := tab2_congr fun u v huv => upt_row (by omega) huv
          (repeat (first | ((with_reducible refine rgn_cons rfl (fun K hK => ?_)); simp only [go_sem, seval, ↓reduceIte, decide_true, decide_false, show ¬ (j : Int) < ((n - i : Nat) : Int) by omega, decide_false, wid ((i : Int) + 1) (by omega) (by omega)]; (refine hK _ _ _ (by simp only [go_sem, Nat.reduceEqDiff, ↓reduceIte]; rfl) ?_); clear hK; clear K) | (with_reducible first | refine rgn_nil (by first | trivial | kernel_rfl) ?_ | refine AWP.seq ?_ | refine tX hC hP (by kernel_rfl) ?_ | refine aX hC hM hP (by kernel_rfl) ?_ | refine AWP.skip ?_ | refine AWP.label ?_ | refine AWP.exit ?_ | refine AWP.block ?_ | refine cTa ?_ | refine cFa ?_) | simp only [qS, Nat.reduceEqDiff, ↓reduceIte]))
          exact ⟨i + 1, by omega, by omega, by simp only [hE]; simp [Sub, lk]⟩
    · have hie : i = n := by omega
      subst hie
      (repeat (first | ((with_reducible refine rgn_cons rfl (fun K hK => ?_)); simp only [go_sem, seval, ↓reduceIte, decide_true, decide_false, show ¬ (i : Int) < (i : Int) by omega, decide_false]; (refine hK _ _ _ (by simp only [go_sem, Nat.reduceEqDiff, ↓reduceIte]; rfl) ?_); clear hK; clear K) | (with_reducible first | refine rgn_nil (by first | trivial | kernel_rfl) ?_ | refine AWP.seq ?_ | refine tX hC hP (by kernel_rfl) ?_ | refine aX hC hM hP (by kernel_rfl) ?_ | refine AWP.skip ?_ | refine AWP.label ?_ | refine AWP.exit ?_ | refine AWP.block ?_ | refine cTa ?_ | refine cFa ?_) | simp only [qS, Nat.reduceEqDiff, ↓reduceIte]))
      (refine AWP.ret ?_; refine retOk1 (by simp only [go_sem, seval, ↓reduceIte, decide_true, decide_false]; rfl) ?_)
      rw [show tab2 i (upt (fun u v => (pc la u v + pc lb u v) % m) (fun _ _ => 0) i 0) = tab2 i (fun u v => (pc la u v + pc lb u v) % m) from tab2_congr fun u v huv => upt_end huv]
set_option maxHeartbeats 1000000 in
theorem c_impl_Plane_plus (m : Int) (la lb : List (List Int)) (n : Nat) (hm : 0 < m) (hm2 : m ≤ 10000) (ha : Pl m n la) (hb : Pl m n lb) (hn : 1 ≤ n) (hn2 : n ≤ 1000) : AFn Try.prog 65 [.agg [.int .i64 m, .sl false 26 (rowsF la)], .agg [.int .i64 m, .sl false 26 (rowsF lb)]] (.agg [.int .i64 m, .sl true 26 (rowsO (tab2 n (fun u v => (pc la u v + pc lb u v) % m)))]) := by
  refine AFn.of' ttOk (by decide) Try.func65 Try.ntmps65 (by rw [Try.results65]) (by rfl) (by rfl) (by simp) (by decide) (by simp only [go_sem, Nat.reduceAdd, ↓reduceIte]; rfl) mixed (fun C hP hM hC => ?_)
  (repeat (first | ((with_reducible refine rgn_cons rfl (fun K hK => ?_)); simp only [go_sem, seval, ↓reduceIte, decide_true, decide_false]; (first | refine hK _ _ _ (by simp only [go_sem, Nat.reduceEqDiff, ↓reduceIte]; rfl) ?_ | refine ⟨_, c_impl_Plane_mapped m la lb n hm hm2 ha hb hn hn2, hK _ _ _ (by simp only [go_sem, Nat.reduceEqDiff, ↓reduceIte]; rfl) ?_⟩); clear hK; clear K) | (with_reducible first | refine rgn_nil (by first | trivial | kernel_rfl) ?_ | refine AWP.seq ?_ | refine tX hC hP (by kernel_rfl) ?_ | refine aX hC hM hP (by kernel_rfl) ?_ | refine AWP.skip ?_ | refine AWP.label ?_ | refine AWP.exit ?_ | refine AWP.block ?_ | refine cTa ?_ | refine cFa ?_) | simp only [qS, Nat.reduceEqDiff, ↓reduceIte]))
  (refine AWP.ret ?_; refine retOk1 (by simp only [go_sem, seval, ↓reduceIte, decide_true, decide_false]; rfl) ?_)
  rfl
set_option maxHeartbeats 1000000 in
theorem c_impl_Series_of (m : Int) (c : List Int) (ll : List (List Int)) (n : Nat) (hm : 0 < m) (hm2 : m ≤ 10000) (hl : Pl m n ll) (hc : ∀ x ∈ c, 0 ≤ x ∧ x < m) (hcl : c.length ≤ 1000) (hn : 1 ≤ n) (hn2 : n ≤ 1000) : AFn Try.prog 50 [.agg [.int .i64 m, .sl false 2 (intL c)], .agg [.int .i64 m, .sl false 26 (rowsF ll)]] (.agg [.int .i64 m, .sl true 26 (rowsO (aftL m n (pc ll) c c.length))]) := by
  refine AFn.of' ttOk (by decide) Try.func50 Try.ntmps50 (by rw [Try.results50]) (by rfl) (by rfl) (by simp) (by decide) (by simp only [go_sem, Nat.reduceAdd, ↓reduceIte]; rfl) mixed (fun C hP hM hC => ?_)
  have h0 := c_impl_Plane_number m 0 ll n hm hm2 hl.len hn hn2
  have e0 : numP m 0 n = aftL m n (pc ll) c 0 := tab2_congr fun u v _ => by simp
  rw [e0] at h0
  (repeat (first | ((with_reducible refine rgn_cons rfl (fun K hK => ?_)); simp only [go_sem, seval, ↓reduceIte, decide_true, decide_false]; (first | refine hK _ _ _ (by simp only [go_sem, Nat.reduceEqDiff, ↓reduceIte]; rfl) ?_ | refine ⟨_, h0, hK _ _ _ (by simp only [go_sem, Nat.reduceEqDiff, ↓reduceIte]; rfl) ?_⟩ | refine ⟨_, c_impl_Series_degree m c (by omega), hK _ _ _ (by simp only [go_sem, Nat.reduceEqDiff, ↓reduceIte]; rfl) ?_⟩); clear hK; clear K) | (with_reducible first | refine rgn_nil (by first | trivial | kernel_rfl) ?_ | refine AWP.seq ?_ | refine tX hC hP (by kernel_rfl) ?_ | refine aX hC hM hP (by kernel_rfl) ?_ | refine AWP.skip ?_ | refine AWP.label ?_ | refine AWP.exit ?_ | refine AWP.block ?_ | refine cTa ?_ | refine cFa ?_) | simp only [qS, Nat.reduceEqDiff, ↓reduceIte]))
  refine AWP.loop (fun w : Nat × Nat => [(6, ⟨0, .val (.int .i64 ((c.length : Int) - 1 - (w.1 : Int)))⟩), (5, ⟨w.2, .own (.box 31 (.agg [.int .i64 m, .sl true 26 (rowsO (aftL m n (pc ll) c w.1))]))⟩), (2, ⟨1, .own (.box 28 (.agg [.int .i64 m, .sl false 2 (intL c)]))⟩), (3, ⟨1, .own (.box 31 (.agg [.int .i64 m, .sl false 26 (rowsF ll)]))⟩), (4, ⟨1, .own (.box 31 (.agg [.int .i64 0, .nil]))⟩)]) (fun w => w.1 ≤ c.length) (fun w => c.length - w.1) (0, 2) (Nat.zero_le _) (fun i => rfl) ?_ (fun w hw => ?_)
  · simp [Sub, lk]
  · obtain ⟨k, v⟩ := w
    simp only at hw ⊢
    by_cases hk : k < c.length
    · have hT := c_impl_Plane_times m (aftL m n (pc ll) c k) ll n hm hm2 (aftL_pl hm n _ c k) hl hn hn2
      have hx := at_bound hc hm (c.length - 1 - k)
      have hN := c_impl_Plane_number m (at' c (c.length - 1 - k)) ll n hm hm2 hl.len hn hn2
      have hPs := c_impl_Plane_plus m (pmul m n (pc (aftL m n (pc ll) c k)) (pc ll)) (numP m (at' c (c.length - 1 - k)) n) n hm hm2 (pmul_pl hm n _ _) (numP_pl hm _ n) hn hn2
      have hE : tab2 n (fun u v => (pc (pmul m n (pc (aftL m n (pc ll) c k)) (pc ll)) u v + pc (numP m (at' c (c.length - 1 - k)) n) u v) % m) = aftL m n (pc ll) c (k + 1) := by
        rw [aftL]
        refine tab2_congr fun u v huv => ?_
        rw [pmul, numP, pc_tab2 huv, pc_tab2 huv]
        by_cases h : u = 0 ∧ v = 0
        · rw [if_pos h, if_pos h, h.1, h.2, Int.emod_eq_of_lt hx.1 hx.2]
        · rw [if_neg h, if_neg h, Int.add_zero, Int.emod_emod]
      rw [hE] at hPs
      have hlt : c.length - 1 - k < c.length := by omega
      (repeat (first | ((with_reducible refine rgn_cons rfl (fun K hK => ?_)); simp only [go_sem, seval, ↓reduceIte, decide_true, decide_false, show (0 : Int) ≤ (c.length : Int) - 1 - (k : Int) by omega, decide_true, show ((c.length : Int) - 1 - (k : Int)).toNat = c.length - 1 - k by omega, show (c.length : Int) - 1 - (k : Int) < (c.length : Int) by omega, intL_getD c _ hlt, show c.getD (c.length - 1 - k) 0 = at' c (c.length - 1 - k) from rfl, wid ((c.length : Int) - 1 - (k : Int) - 1) (by omega) (by omega)]; (first | refine hK _ _ _ (by simp only [go_sem, Nat.reduceEqDiff, ↓reduceIte]; rfl) ?_ | refine ⟨_, hT, hK _ _ _ (by simp only [go_sem, Nat.reduceEqDiff, ↓reduceIte]; rfl) ?_⟩ | refine ⟨_, hN, hK _ _ _ (by simp only [go_sem, Nat.reduceEqDiff, ↓reduceIte]; rfl) ?_⟩ | refine ⟨_, hPs, hK _ _ _ (by simp only [go_sem, Nat.reduceEqDiff, ↓reduceIte]; rfl) ?_⟩); clear hK; clear K) | (with_reducible first | refine rgn_nil (by first | trivial | kernel_rfl) ?_ | refine AWP.seq ?_ | refine tX hC hP (by kernel_rfl) ?_ | refine aX hC hM hP (by kernel_rfl) ?_ | refine AWP.skip ?_ | refine AWP.label ?_ | refine AWP.exit ?_ | refine AWP.block ?_ | refine cTa ?_ | refine cFa ?_) | simp only [qS, Nat.reduceEqDiff, ↓reduceIte]))
      exact ⟨(k + 1, v + 1), by simp only; omega, by simp only; omega, by simp [Sub, lk]; omega⟩
    · (repeat (first | ((with_reducible refine rgn_cons rfl (fun K hK => ?_)); simp only [go_sem, seval, ↓reduceIte, decide_true, decide_false, show ¬ (0 : Int) ≤ (c.length : Int) - 1 - (k : Int) by omega, decide_false]; (refine hK _ _ _ (by simp only [go_sem, Nat.reduceEqDiff, ↓reduceIte]; rfl) ?_); clear hK; clear K) | (with_reducible first | refine rgn_nil (by first | trivial | kernel_rfl) ?_ | refine AWP.seq ?_ | refine tX hC hP (by kernel_rfl) ?_ | refine aX hC hM hP (by kernel_rfl) ?_ | refine AWP.skip ?_ | refine AWP.label ?_ | refine AWP.exit ?_ | refine AWP.block ?_ | refine cTa ?_ | refine cFa ?_) | simp only [qS, Nat.reduceEqDiff, ↓reduceIte]))
      (refine AWP.ret ?_; refine retOk1 (by simp only [go_sem, seval, ↓reduceIte, decide_true, decide_false]; rfl) ?_)
      rw [show k = c.length by omega]
set_option maxHeartbeats 1000000 in
theorem c_impl_Plane_same_1 (la lb : List Int) (h : la.length = lb.length) (hl : la.length ≤ 1000000000) : AFn Try.prog 67 [.sl false 2 (intL la), .sl false 2 (intL lb)] (.bool (eqB la lb)) := by
  refine AFn.of' ttOk (by decide) Try.func67 Try.ntmps67 (by rw [Try.results67]) (by rfl) (by rfl) (by simp) (by decide) (by simp only [go_sem, Nat.reduceAdd, ↓reduceIte]; rfl) mixed (fun C hP hM hC => ?_)
  (repeat (first | ((with_reducible refine rgn_cons rfl (fun K hK => ?_)); simp only [go_sem, seval, ↓reduceIte, decide_true, decide_false]; (first | refine hK _ _ _ (by simp only [go_sem, Nat.reduceEqDiff, ↓reduceIte]; rfl) ?_ | refine ⟨_, c_slices_Equal_int64_int64 la lb h hl, hK _ _ _ (by simp only [go_sem, Nat.reduceEqDiff, ↓reduceIte]; rfl) ?_⟩); clear hK; clear K) | (with_reducible first | refine rgn_nil (by first | trivial | kernel_rfl) ?_ | refine AWP.seq ?_ | refine tX hC hP (by kernel_rfl) ?_ | refine aX hC hM hP (by kernel_rfl) ?_ | refine AWP.skip ?_ | refine AWP.label ?_ | refine AWP.exit ?_ | refine AWP.block ?_ | refine cTa ?_ | refine cFa ?_) | simp only [qS, Nat.reduceEqDiff, ↓reduceIte]))
  (refine AWP.ret ?_; refine retOk1 (by simp only [go_sem, seval, ↓reduceIte, decide_true, decide_false]; rfl) ?_)
  rfl
theorem tab2_ne {n : Nat} {f g : Nat → Nat → Int} {i : Nat} (hi : i < n) (h : tab (n - i) (f i) ≠ tab (n - i) (g i)) : tab2 n f ≠ tab2 n g := fun e => h (by rw [← tab2_row (f := f) hi, ← tab2_row (f := g) hi, e])
theorem tab2_eq {n : Nat} {f g : Nat → Nat → Int} (h : ∀ i, i < n → tab (n - i) (f i) = tab (n - i) (g i)) : tab2 n f = tab2 n g :=
  List.map_congr_left fun i hi => h i (List.mem_range.1 hi)
set_option maxHeartbeats 1000000 in
theorem c_slices_EqualFunc_int64_int64_int64_int64 (n : Nat) (f g : Nat → Nat → Int) (hn : n ≤ 1000) : AFn Try.prog 66 [.sl false 26 (rowsF (tab2 n f)), .sl false 26 (rowsF (tab2 n g)), .fn 67 []] (.bool (decide (tab2 n f = tab2 n g))) := by
  refine AFn.of' ttOk (by decide) Try.func66 Try.ntmps66 (by rw [Try.results66]) (by rfl) (by rfl) (by simp) (by decide) (by simp only [go_sem, Nat.reduceAdd, ↓reduceIte]; rfl) mixed (fun C hP hM hC => ?_)
  (repeat (first | ((with_reducible refine rgn_cons rfl (fun K hK => ?_)); simp only [go_sem, seval, ↓reduceIte, decide_true, decide_false, rowsF_length, tab2_length, show ((n : Int) != (n : Int)) = false by simp]; (refine hK _ _ _ (by simp only [go_sem, Nat.reduceEqDiff, ↓reduceIte]; rfl) ?_); clear hK; clear K) | (with_reducible first | refine rgn_nil (by first | trivial | kernel_rfl) ?_ | refine AWP.seq ?_ | refine tX hC hP (by kernel_rfl) ?_ | refine aX hC hM hP (by kernel_rfl) ?_ | refine AWP.skip ?_ | refine AWP.label ?_ | refine AWP.exit ?_ | refine AWP.block ?_ | refine cTa ?_ | refine cFa ?_) | simp only [qS, Nat.reduceEqDiff, ↓reduceIte]))
  refine AWP.loop (fun i : Nat => [(17, ⟨0, .val (.int .i64 i)⟩), (16, ⟨0, .val (.int .i64 n)⟩), (15, ⟨0, .val (.sl false 26 (rowsF (tab2 n f)))⟩), (0, ⟨0, .val (.sl false 26 (rowsF (tab2 n f)))⟩), (1, ⟨0, .val (.sl false 26 (rowsF (tab2 n g)))⟩), (2, ⟨0, .val (.fn 67 [])⟩)]) (fun i => i ≤ n ∧ ∀ j, j < i → tab (n - j) (f j) = tab (n - j) (g j)) (fun i => n - i) 0 ⟨Nat.zero_le _, fun j hj => by omega⟩ (fun i => rfl) ?_ (fun i hi => ?_)
  · simp [Sub, lk]
  · by_cases hin : i < n
    · have hS := c_impl_Plane_same_1 (tab (n - i) (f i)) (tab (n - i) (g i)) (by rw [tab_length, tab_length]) (by rw [tab_length]; omega)
      by_cases he : tab (n - i) (f i) = tab (n - i) (g i)
      · rw [eqB, decide_eq_true he] at hS
        (repeat (first | ((with_reducible refine rgn_cons rfl (fun K hK => ?_)); simp only [go_sem, seval, ↓reduceIte, decide_true, decide_false, show (i : Int) < (n : Int) by omega, decide_true, rowsF_getD (tab2 n f) i (by rw [tab2_length]; exact hin), rowsF_getD (tab2 n g) i (by rw [tab2_length]; exact hin), tab2_row hin, rowsF_length, tab2_length, Int.toNat_natCast, Int.natCast_nonneg, wid ((i : Int) + 1) (by omega) (by omega)]; (first | refine hK _ _ _ (by simp only [go_sem, Nat.reduceEqDiff, ↓reduceIte]; rfl) ?_ | refine ⟨_, hS, hK _ _ _ (by simp only [go_sem, Nat.reduceEqDiff, ↓reduceIte]; rfl) ?_⟩); clear hK; clear K) | (with_reducible first | refine rgn_nil (by first | trivial | kernel_rfl) ?_ | refine AWP.seq ?_ | refine tX hC hP (by kernel_rfl) ?_ | refine aX hC hM hP (by kernel_rfl) ?_ | refine AWP.skip ?_ | refine AWP.label ?_ | refine AWP.exit ?_ | refine AWP.block ?_ | refine cTa ?_ | refine cFa ?_) | simp only [qS, Nat.reduceEqDiff, ↓reduceIte]))
        refine ⟨i + 1, ⟨hin, fun j hj => ?_⟩, by omega, by simp [Sub, lk]⟩
        by_cases e : j = i
        · rw [e]; exact he
        · exact hi.2 j (by omega)
      · rw [eqB, decide_eq_false he] at hS
        (repeat (first | ((with_reducible refine rgn_cons rfl (fun K hK => ?_)); simp only [go_sem, seval, ↓reduceIte, decide_true, decide_false, show (i : Int) < (n : Int) by omega, decide_true, rowsF_getD (tab2 n f) i (by rw [tab2_length]; exact hin), rowsF_getD (tab2 n g) i (by rw [tab2_length]; exact hin), tab2_row hin, rowsF_length, tab2_length, Int.toNat_natCast, Int.natCast_nonneg]; (first | refine hK _ _ _ (by simp only [go_sem, Nat.reduceEqDiff, ↓reduceIte]; rfl) ?_ | refine ⟨_, hS, hK _ _ _ (by simp only [go_sem, Nat.reduceEqDiff, ↓reduceIte]; rfl) ?_⟩); clear hK; clear K) | (with_reducible first | refine rgn_nil (by first | trivial | kernel_rfl) ?_ | refine AWP.seq ?_ | refine tX hC hP (by kernel_rfl) ?_ | refine aX hC hM hP (by kernel_rfl) ?_ | refine AWP.skip ?_ | refine AWP.label ?_ | refine AWP.exit ?_ | refine AWP.block ?_ | refine cTa ?_ | refine cFa ?_) | simp only [qS, Nat.reduceEqDiff, ↓reduceIte]))
        (refine AWP.ret ?_; refine retOk1 (by simp only [go_sem, seval, ↓reduceIte, decide_true, decide_false]; rfl) ?_)
        rw [decide_eq_false (tab2_ne hin he)]
    · (repeat (first | ((with_reducible refine rgn_cons rfl (fun K hK => ?_)); simp only [go_sem, seval, ↓reduceIte, decide_true, decide_false, show ¬ (i : Int) < (n : Int) by omega, decide_false]; (refine hK _ _ _ (by simp only [go_sem, Nat.reduceEqDiff, ↓reduceIte]; rfl) ?_); clear hK; clear K) | (with_reducible first | refine rgn_nil (by first | trivial | kernel_rfl) ?_ | refine AWP.seq ?_ | refine tX hC hP (by kernel_rfl) ?_ | refine aX hC hM hP (by kernel_rfl) ?_ | refine AWP.skip ?_ | refine AWP.label ?_ | refine AWP.exit ?_ | refine AWP.block ?_ | refine cTa ?_ | refine cFa ?_) | simp only [qS, Nat.reduceEqDiff, ↓reduceIte]))
      (refine AWP.ret ?_; refine retOk1 (by simp only [go_sem, seval, ↓reduceIte, decide_true, decide_false]; rfl) ?_)
      rw [decide_eq_true (tab2_eq fun j hj => hi.2 j (by omega))]
set_option maxHeartbeats 1000000 in
theorem c_impl_Plane_same (m : Int) (n : Nat) (f g : Nat → Nat → Int) (hn : n ≤ 1000) : AFn Try.prog 51 [.agg [.int .i64 m, .sl false 26 (rowsF (tab2 n f))], .agg [.int .i64 m, .sl false 26 (rowsF (tab2 n g))]] (.bool (decide (tab2 n f = tab2 n g))) := by
  refine AFn.of' ttOk (by decide) Try.func51 Try.ntmps51 (by rw [Try.results51]) (by rfl) (by rfl) (by simp) (by decide) (by simp only [go_sem, Nat.reduceAdd, ↓reduceIte]; rfl) mixed (fun C hP hM hC => ?_)
  (repeat (first | ((with_reducible refine rgn_cons rfl (fun K hK => ?_)); simp only [go_sem, seval, ↓reduceIte, decide_true, decide_false, show (m == m) = true by simp]; (first | refine hK _ _ _ (by simp only [go_sem, Nat.reduceEqDiff, ↓reduceIte]; rfl) ?_ | refine ⟨_, c_slices_EqualFunc_int64_int64_int64_int64 n f g hn, hK _ _ _ (by simp only [go_sem, Nat.reduceEqDiff, ↓reduceIte]; rfl) ?_⟩); clear hK; clear K) | (with_reducible first | refine rgn_nil (by first | trivial | kernel_rfl) ?_ | refine AWP.seq ?_ | refine tX hC hP (by kernel_rfl) ?_ | refine aX hC hM hP (by kernel_rfl) ?_ | refine AWP.skip ?_ | refine AWP.label ?_ | refine AWP.exit ?_ | refine AWP.block ?_ | refine cTa ?_ | refine cFa ?_) | simp only [qS, Nat.reduceEqDiff, ↓reduceIte]))
  (refine AWP.ret ?_; refine retOk1 (by simp only [go_sem, seval, ↓reduceIte, decide_true, decide_false]; rfl) ?_)
  rfl
set_option maxHeartbeats 1000000 in
theorem c_spec_l01Same (la lb : List Int) (h : la.length = lb.length) (hl : la.length ≤ 1000000000) : AFn Try.prog 56 [.sl false 2 (intL la), .sl false 2 (intL lb)] (.bool (eqB la lb)) := by
  refine AFn.of' ttOk (by decide) Try.func56 Try.ntmps56 (by rw [Try.results56]) (by rfl) (by rfl) (by simp) (by decide) (by simp only [go_sem, Nat.reduceAdd, ↓reduceIte]; rfl) mixed (fun C hP hM hC => ?_)
  (repeat (first | ((with_reducible refine rgn_cons rfl (fun K hK => ?_)); simp only [go_sem, seval, ↓reduceIte, decide_true, decide_false, show ((la.length : Int) != (lb.length : Int)) = false by rw [h]; simp]; (refine hK _ _ _ (by simp only [go_sem, Nat.reduceEqDiff, ↓reduceIte]; rfl) ?_); clear hK; clear K) | (with_reducible first | refine rgn_nil (by first | trivial | kernel_rfl) ?_ | refine AWP.seq ?_ | refine tX hC hP (by kernel_rfl) ?_ | refine aX hC hM hP (by kernel_rfl) ?_ | refine AWP.skip ?_ | refine AWP.label ?_ | refine AWP.exit ?_ | refine AWP.block ?_ | refine cTa ?_ | refine cFa ?_) | simp only [qS, Nat.reduceEqDiff, ↓reduceIte]))
  refine AWP.loop (fun i : Nat => [(5, ⟨0, .val (.int .i64 i)⟩), (0, ⟨0, .val (.sl false 2 (intL la))⟩), (1, ⟨0, .val (.sl false 2 (intL lb))⟩)]) (fun i => i ≤ la.length ∧ ∀ j, j < i → la.getD j 0 = lb.getD j 0) (fun i => la.length - i) 0 ⟨Nat.zero_le _, fun j hj => by omega⟩ (fun i => rfl) ?_ (fun i hi => ?_)
  · simp [Sub, lk]
  · by_cases hlt : i < la.length
    · by_cases hx : la.getD i 0 = lb.getD i 0
      · (repeat (first | ((with_reducible refine rgn_cons rfl (fun K hK => ?_)); simp only [go_sem, seval, ↓reduceIte, decide_true, decide_false, show (i : Int) < (la.length : Int) by omega, show (i : Int) < (lb.length : Int) by omega, decide_true, intL_getD la i hlt, intL_getD lb i (by omega), Int.toNat_natCast, Int.natCast_nonneg, show (la.getD i 0 != lb.getD i 0) = false by rw [hx]; simp, wid ((i : Int) + 1) (by omega) (by omega)]; (refine hK _ _ _ (by simp only [go_sem, Nat.reduceEqDiff, ↓reduceIte]; rfl) ?_); clear hK; clear K) | (with_reducible first | refine rgn_nil (by first | trivial | kernel_rfl) ?_ | refine AWP.seq ?_ | refine tX hC hP (by kernel_rfl) ?_ | refine aX hC hM hP (by kernel_rfl) ?_ | refine AWP.skip ?_ | refine AWP.label ?_ | refine AWP.exit ?_ | refine AWP.block ?_ | refine cTa ?_ | refine cFa ?_) | simp only [qS, Nat.reduceEqDiff, ↓reduceIte]))
        refine ⟨i + 1, ⟨hlt, fun j hj => ?_⟩, by omega, by simp [Sub, lk]⟩
        by_cases e : j = i
        · rw [e]; exact hx
        · exact hi.2 j (by omega)
      · (repeat (first | ((with_reducible refine rgn_cons rfl (fun K hK => ?_)); simp only [go_sem, seval, ↓reduceIte, decide_true, decide_false, show (i : Int) < (la.length : Int) by omega, show (i : Int) < (lb.length : Int) by omega, decide_true, intL_getD la i hlt, intL_getD lb i (by omega), Int.toNat_natCast, Int.natCast_nonneg, show (la.getD i 0 != lb.getD i 0) = true by rw [bne_iff_ne]; exact hx]; (refine hK _ _ _ (by simp only [go_sem, Nat.reduceEqDiff, ↓reduceIte]; rfl) ?_); clear hK; clear K) | (with_reducible first | refine rgn_nil (by first | trivial | kernel_rfl) ?_ | refine AWP.seq ?_ | refine tX hC hP (by kernel_rfl) ?_ | refine aX hC hM hP (by kernel_rfl) ?_ | refine AWP.skip ?_ | refine AWP.label ?_ | refine AWP.exit ?_ | refine AWP.block ?_ | refine cTa ?_ | refine cFa ?_) | simp only [qS, Nat.reduceEqDiff, ↓reduceIte]))
        (refine AWP.ret ?_; refine retOk1 (by simp only [go_sem, seval, ↓reduceIte, decide_true, decide_false]; rfl) ?_)
        rw [eqB, decide_eq_false (fun e => hx (by rw [e]))]
    · (repeat (first | ((with_reducible refine rgn_cons rfl (fun K hK => ?_)); simp only [go_sem, seval, ↓reduceIte, decide_true, decide_false, show ¬ (i : Int) < (la.length : Int) by omega, decide_false]; (refine hK _ _ _ (by simp only [go_sem, Nat.reduceEqDiff, ↓reduceIte]; rfl) ?_); clear hK; clear K) | (with_reducible first | refine rgn_nil (by first | trivial | kernel_rfl) ?_ | refine AWP.seq ?_ | refine tX hC hP (by kernel_rfl) ?_ | refine aX hC hM hP (by kernel_rfl) ?_ | refine AWP.skip ?_ | refine AWP.label ?_ | refine AWP.exit ?_ | refine AWP.block ?_ | refine cTa ?_ | refine cFa ?_) | simp only [qS, Nat.reduceEqDiff, ↓reduceIte]))
      (refine AWP.ret ?_; refine retOk1 (by simp only [go_sem, seval, ↓reduceIte, decide_true, decide_false]; rfl) ?_)
      rw [eqB, decide_eq_true (eq_of_at h (fun j hj => hi.2 j (by omega)))]
set_option maxHeartbeats 1000000 in
theorem c_spec_l01Same2 (n : Nat) (f g : Nat → Nat → Int) (hn : n ≤ 1000) : AFn Try.prog 43 [.sl false 26 (rowsF (tab2 n f)), .sl false 26 (rowsF (tab2 n g))] (.bool (decide (tab2 n f = tab2 n g))) := by
  refine AFn.of' ttOk (by decide) Try.func43 Try.ntmps43 (by rw [Try.results43]) (by rfl) (by rfl) (by simp) (by decide) (by simp only [go_sem, Nat.reduceAdd, ↓reduceIte]; rfl) mixed (fun C hP hM hC => ?_)
  (repeat (first | ((with_reducible refine rgn_cons rfl (fun K hK => ?_)); simp only [go_sem, seval, ↓reduceIte, decide_true, decide_false, rowsF_length, tab2_length, show ((n : Int) != (n : Int)) = false by simp]; (refine hK _ _ _ (by simp only [go_sem, Nat.reduceEqDiff, ↓reduceIte]; rfl) ?_); clear hK; clear K) | (with_reducible first | refine rgn_nil (by first | trivial | kernel_rfl) ?_ | refine AWP.seq ?_ | refine tX hC hP (by kernel_rfl) ?_ | refine aX hC hM hP (by kernel_rfl) ?_ | refine AWP.skip ?_ | refine AWP.label ?_ | refine AWP.exit ?_ | refine AWP.block ?_ | refine cTa ?_ | refine cFa ?_) | simp only [qS, Nat.reduceEqDiff, ↓reduceIte]))
  refine AWP.loop (fun i : Nat => [(5, ⟨0, .val (.int .i64 i)⟩), (0, ⟨0, .val (.sl false 26 (rowsF (tab2 n f)))⟩), (1, ⟨0, .val (.sl false 26 (rowsF (tab2 n g)))⟩)]) (fun i => i ≤ n ∧ ∀ j, j < i → tab (n - j) (f j) = tab (n - j) (g j)) (fun i => n - i) 0 ⟨Nat.zero_le _, fun j hj => by omega⟩ (fun i => rfl) ?_ (fun i hi => ?_)
  · simp [Sub, lk]
  · by_cases hin : i < n
    · have hS := c_spec_l01Same (tab (n - i) (f i)) (tab (n - i) (g i)) (by rw [tab_length, tab_length]) (by rw [tab_length]; omega)
      by_cases he : tab (n - i) (f i) = tab (n - i) (g i)
      · rw [eqB, decide_eq_true he] at hS
        (repeat (first | ((with_reducible refine rgn_cons rfl (fun K hK => ?_)); simp only [go_sem, seval, ↓reduceIte, decide_true, decide_false, show (i : Int) < (n : Int) by omega, decide_true, rowsF_getD (tab2 n f) i (by rw [tab2_length]; exact hin), rowsF_getD (tab2 n g) i (by rw [tab2_length]; exact hin), tab2_row hin, rowsF_length, tab2_length, Int.toNat_natCast, Int.natCast_nonneg, wid ((i : Int) + 1) (by omega) (by omega)]; (first | refine hK _ _ _ (by simp only [go_sem, Nat.reduceEqDiff, ↓reduceIte]; rfl) ?_ | refine ⟨_, hS, hK _ _ _ (by simp only [go_sem, Nat.reduceEqDiff, ↓reduceIte]; rfl) ?_⟩); clear hK; clear K) | (with_reducible first | refine rgn_nil (by first | trivial | kernel_rfl) ?_ | refine AWP.seq ?_ | refine tX hC hP (by kernel_rfl) ?_ | refine aX hC hM hP (by kernel_rfl) ?_ | refine AWP.skip ?_ | refine AWP.label ?_ | refine AWP.exit ?_ | refine AWP.block ?_ | refine cTa ?_ | refine cFa ?_) | simp only [qS, Nat.reduceEqDiff, ↓reduceIte]))
        refine ⟨i + 1, ⟨hin, fun j hj => ?_⟩, by omega, by simp [Sub, lk]⟩
        by_cases e : j = i
        · rw [e]; exact he
        · exact hi.2 j (by omega)
      · rw [eqB, decide_eq_false he] at hS
        (repeat (first | ((with_reducible refine rgn_cons rfl (fun K hK => ?_)); simp only [go_sem, seval, ↓reduceIte, decide_true, decide_false, show (i : Int) < (n : Int) by omega, decide_true, rowsF_getD (tab2 n f) i (by rw [tab2_length]; exact hin), rowsF_getD (tab2 n g) i (by rw [tab2_length]; exact hin), tab2_row hin, rowsF_length, tab2_length, Int.toNat_natCast, Int.natCast_nonneg]; (first | refine hK _ _ _ (by simp only [go_sem, Nat.reduceEqDiff, ↓reduceIte]; rfl) ?_ | refine ⟨_, hS, hK _ _ _ (by simp only [go_sem, Nat.reduceEqDiff, ↓reduceIte]; rfl) ?_⟩); clear hK; clear K) | (with_reducible first | refine rgn_nil (by first | trivial | kernel_rfl) ?_ | refine AWP.seq ?_ | refine tX hC hP (by kernel_rfl) ?_ | refine aX hC hM hP (by kernel_rfl) ?_ | refine AWP.skip ?_ | refine AWP.label ?_ | refine AWP.exit ?_ | refine AWP.block ?_ | refine cTa ?_ | refine cFa ?_) | simp only [qS, Nat.reduceEqDiff, ↓reduceIte]))
        (refine AWP.ret ?_; refine retOk1 (by simp only [go_sem, seval, ↓reduceIte, decide_true, decide_false]; rfl) ?_)
        rw [decide_eq_false (tab2_ne hin he)]
    · (repeat (first | ((with_reducible refine rgn_cons rfl (fun K hK => ?_)); simp only [go_sem, seval, ↓reduceIte, decide_true, decide_false, rowsF_length, tab2_length, show ¬ (i : Int) < (n : Int) by omega, decide_false]; (refine hK _ _ _ (by simp only [go_sem, Nat.reduceEqDiff, ↓reduceIte]; rfl) ?_); clear hK; clear K) | (with_reducible first | refine rgn_nil (by first | trivial | kernel_rfl) ?_ | refine AWP.seq ?_ | refine tX hC hP (by kernel_rfl) ?_ | refine aX hC hM hP (by kernel_rfl) ?_ | refine AWP.skip ?_ | refine AWP.label ?_ | refine AWP.exit ?_ | refine AWP.block ?_ | refine cTa ?_ | refine cFa ?_) | simp only [qS, Nat.reduceEqDiff, ↓reduceIte]))
      (refine AWP.ret ?_; refine retOk1 (by simp only [go_sem, seval, ↓reduceIte, decide_true, decide_false]; rfl) ?_)
      rw [decide_eq_true (tab2_eq fun j hj => hi.2 j (by omega))]
end Go.Proofs.Ytahnnangdepkbab
