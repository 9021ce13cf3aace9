/-
  Planes of curves: the program and the reference.
-/
import Derived.Test.YtapdekacpecgiaaGreatIa
import Derived.Test.YtapdekacpecgiaaGreatIp
import Derived.Test.YtapdekacpecgiaaGreatKe
import Derived.Test.YtapdekacpecgiaaGreatKf
import Derived.Test.YtapdekacpecgiaaGreatKc
namespace Go.Proofs.YtapdekacpecgiaaGreat
open Go.RowKit
set_option linter.unusedSimpArgs false
set_option linter.unusedVariables false
set_option linter.unusedSectionVars false
set_option maxRecDepth 20000
-- Planes of curves: the program and the reference.
set_option maxHeartbeats 1000000 in
theorem c_impl_Series_of (m : Int) (c : List Int) (ll : List (List Int)) (n : Nat) (hm : 0 < m) (hm2 : m ≤ 10000) (hl : Pl m n ll) (hc : ∀ x ∈ c, 0 ≤ x ∧ x < m) (hcl : c.length ≤ 1000) (hn : 1 ≤ n) (hn2 : n ≤ 1000) : AFn Tryz.prog 91 [.agg [.int .i64 m, .sl false 2 (intL c)], .agg [.int .i64 m, .sl false 27 (rowsF ll)]] (.agg [.int .i64 m, .sl true 27 (rowsO (aftL m n (pc ll) c c.length))]) := by
  refine AFn.of' ttOk (by decide) Tryz.func91 Tryz.ntmps91 (by rw [Tryz.results91]) (by rfl) (by rfl) (by simp) (by decide) (by simp only [go_sem, Nat.reduceAdd, ↓reduceIte]; rfl) mixed (fun C hP hM hC => ?_)
  have h0 := c_impl_Plane_number m 0 ll n hm hm2 hl.len hn hn2
  have e0 : numP m 0 n = aftL m n (pc ll) c 0 := tab2_congr fun u v _ => by simp
  rw [e0] at h0
  (repeat (first | ((with_reducible refine rgn_cons rfl (fun K hK => ?_)); simp only [go_sem, seval, ↓reduceIte, decide_true, decide_false]; (first | refine hK _ _ _ (by simp only [go_sem, Nat.reduceEqDiff, ↓reduceIte]; rfl) ?_ | refine ⟨_, h0, hK _ _ _ (by simp only [go_sem, Nat.reduceEqDiff, ↓reduceIte]; rfl) ?_⟩ | refine ⟨_, c_impl_Series_degree m c (by omega), hK _ _ _ (by simp only [go_sem, Nat.reduceEqDiff, ↓reduceIte]; rfl) ?_⟩); clear hK; clear K) | (with_reducible first | refine rgn_nil (by first | trivial | kernel_rfl) ?_ | refine AWP.seq ?_ | refine tX hC hP (by kernel_rfl) ?_ | refine aX hC hM hP (by kernel_rfl) ?_ | refine AWP.skip ?_ | refine AWP.label ?_ | refine AWP.exit ?_ | refine AWP.block ?_ | refine cTa ?_ | refine cFa ?_) | simp only [qS, Nat.reduceEqDiff, ↓reduceIte]))
  refine AWP.loop (fun w : Nat × Nat => [(6, ⟨0, .val (.int .i64 ((c.length : Int) - 1 - (w.1 : Int)))⟩), (5, ⟨w.2, .own (.box 26 (.agg [.int .i64 m, .sl true 27 (rowsO (aftL m n (pc ll) c w.1))]))⟩), (2, ⟨1, .own (.box 29 (.agg [.int .i64 m, .sl false 2 (intL c)]))⟩), (3, ⟨1, .own (.box 26 (.agg [.int .i64 m, .sl false 27 (rowsF ll)]))⟩), (4, ⟨1, .own (.box 26 (.agg [.int .i64 0, .nil]))⟩)]) (fun w => w.1 ≤ c.length) (fun w => c.length - w.1) (0, 2) (Nat.zero_le _) (fun i => rfl) ?_ (fun w hw => ?_)
  · simp [Sub, lk]
  · obtain ⟨k, v⟩ := w
    simp only at hw ⊢
    by_cases hk : k < c.length
    · have hT := c_impl_Plane_times m (aftL m n (pc ll) c k) ll n hm hm2 (aftL_pl hm n _ c k) hl hn hn2
      have hx := at_bound hc hm (c.length - 1 - k)
      have hN := c_impl_Plane_number m (at' c (c.length - 1 - k)) ll n hm hm2 hl.len hn hn2
      have hPs := c_impl_Plane_plus m (pmul m n (pc (aftL m n (pc ll) c k)) (pc ll)) (numP m (at' c (c.length - 1 - k)) n) n hm hm2 (pmul_pl hm n _ _) (numP_pl hm _ n) hn hn2
      have hE : tab2 n (fun u v => (pc (pmul m n (pc (aftL m n (pc ll) c k)) (pc ll)) u v + pc (numP m (at' c (c.length - 1 - k)) n) u v) % m) = aftL m n (pc ll) c (k + 1) := by
        rw [aftL]
        refine tab2_congr fun u v huv => ?_
        rw [pmul, numP, pc_tab2 huv, pc_tab2 huv]
        by_cases h : u = 0 ∧ v = 0
        · rw [if_pos h, if_pos h, h.1, h.2, Int.emod_eq_of_lt hx.1 hx.2]
        · rw [if_neg h, if_neg h, Int.add_zero, Int.emod_emod]
      rw [hE] at hPs
      have hlt : c.length - 1 - k < c.length := by omega
      (repeat (first | ((with_reducible refine rgn_cons rfl (fun K hK => ?_)); simp only [go_sem, seval, ↓reduceIte, decide_true, decide_false, show (0 : Int) ≤ (c.length : Int) - 1 - (k : Int) by omega, decide_true, show ((c.length : Int) - 1 - (k : Int)).toNat = c.length - 1 - k by omega, show (c.length : Int) - 1 - (k : Int) < (c.length : Int) by omega, intL_getD c _ hlt, show c.getD (c.length - 1 - k) 0 = at' c (c.length - 1 - k) from rfl, wid ((c.length : Int) - 1 - (k : Int) - 1) (by omega) (by omega)]; (first | refine hK _ _ _ (by simp only [go_sem, Nat.reduceEqDiff, ↓reduceIte]; rfl) ?_ | refine ⟨_, hT, hK _ _ _ (by simp only [go_sem, Nat.reduceEqDiff, ↓reduceIte]; rfl) ?_⟩ | refine ⟨_, hN, hK _ _ _ (by simp only [go_sem, Nat.reduceEqDiff, ↓reduceIte]; rfl) ?_⟩ | refine ⟨_, hPs, hK _ _ _ (by simp only [go_sem, Nat.reduceEqDiff, ↓reduceIte]; rfl) ?_⟩); clear hK; clear K) | (with_reducible first | refine rgn_nil (by first | trivial | kernel_rfl) ?_ | refine AWP.seq ?_ | refine tX hC hP (by kernel_rfl) ?_ | refine aX hC hM hP (by kernel_rfl) ?_ | refine AWP.skip ?_ | refine AWP.label ?_ | refine AWP.exit ?_ | refine AWP.block ?_ | refine cTa ?_ | refine cFa ?_) | simp only [qS, Nat.reduceEqDiff, ↓reduceIte]))
      exact ⟨(k + 1, v + 1), by simp only; omega, by simp only; omega, by simp [Sub, lk]; omega⟩
    · (repeat (first | ((with_reducible refine rgn_cons rfl (fun K hK => ?_)); simp only [go_sem, seval, ↓reduceIte, decide_true, decide_false, show ¬ (0 : Int) ≤ (c.length : Int) - 1 - (k : Int) by omega, decide_false]; (refine hK _ _ _ (by simp only [go_sem, Nat.reduceEqDiff, ↓reduceIte]; rfl) ?_); clear hK; clear K) | (with_reducible first | refine rgn_nil (by first | trivial | kernel_rfl) ?_ | refine AWP.seq ?_ | refine tX hC hP (by kernel_rfl) ?_ | refine aX hC hM hP (by kernel_rfl) ?_ | refine AWP.skip ?_ | refine AWP.label ?_ | refine AWP.exit ?_ | refine AWP.block ?_ | refine cTa ?_ | refine cFa ?_) | simp only [qS, Nat.reduceEqDiff, ↓reduceIte]))
      (refine AWP.ret ?_; refine retOk1 (by simp only [go_sem, seval, ↓reduceIte, decide_true, decide_false]; rfl) ?_)
      rw [show k = c.length by omega]
end Go.Proofs.YtapdekacpecgiaaGreat
