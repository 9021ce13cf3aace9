/-
  A series of a plane by Horner's rule; columns.
-/
import Derived.Test.YtapdekacpecgiaaGreatKc
namespace Go.Proofs.YtapdekacpecgiaaGreat
open Go.RowKit
set_option linter.unusedSimpArgs false
set_option linter.unusedVariables false
set_option linter.unusedSectionVars false
set_option maxRecDepth 20000
-- A series of a plane by Horner's rule; columns.
def aftL (m : Int) (n : Nat) (t : Nat → Nat → Int) (c : List Int) : Nat → List (List Int)
  | 0 => tab2 n (fun _ _ => 0)
  | k + 1 => tab2 n (fun u v => if u = 0 ∧ v = 0 then (cv2 (pc (aftL m n t c k)) t 0 0 % m + at' c (c.length - 1 - k)) % m else cv2 (pc (aftL m n t c k)) t u v % m)
theorem aftL_pl {m : Int} (hm : 0 < m) (n : Nat) (t : Nat → Nat → Int) (c : List Int) : ∀ k, Pl m n (aftL m n t c k)
  | 0 => Pl.tab2 hm fun _ _ _ => by omega
  | k + 1 => Pl.tab2 hm fun u v _ => by split <;> exact emod_b _ m hm
set_option maxHeartbeats 1000000 in
theorem c_spec_l03After (m : Int) (c : List Int) (ll : List (List Int)) (n : Nat) (hm : 0 < m) (hm2 : m ≤ 10000) (hl : Pl m n ll) (hc : ∀ x ∈ c, 0 ≤ x ∧ x < m) (hcl : c.length ≤ 1000) (hn : 1 ≤ n) (hn2 : n ≤ 1000) : AFn Tryz.prog 93 [.int .i64 m, .sl false 2 (intL c), .sl false 27 (rowsF ll)] (.sl true 27 (rowsO (aftL m n (pc ll) c c.length))) := by
  refine AFn.of' ttOk (by decide) Tryz.func93 Tryz.ntmps93 (by rw [Tryz.results93]) (by rfl) (by rfl) (by simp) (by decide) (by simp only [go_sem, Nat.reduceAdd, ↓reduceIte]; rfl) mixed (fun C hP hM hC => ?_)
  have hZ0 := c_spec_l03Zero (n - 1) (by omega)
  rw [show n - 1 + 1 = n by omega] at hZ0
  (repeat (first | ((with_reducible refine rgn_cons rfl (fun K hK => ?_)); simp only [go_sem, seval, ↓reduceIte, decide_true, decide_false, rowsF_length, hl.len, show IntKind.i64.wrap ((n : Int) - 1) = ((n - 1 : Nat) : Int) by rw [wid _ (by omega) (by omega)]; omega, wid ((c.length : Int) - 1) (by omega) (by omega)]; (first | refine hK _ _ _ (by simp only [go_sem, Nat.reduceEqDiff, ↓reduceIte]; rfl) ?_ | refine ⟨_, hZ0, hK _ _ _ (by simp only [go_sem, Nat.reduceEqDiff, ↓reduceIte]; rfl) ?_⟩); clear hK; clear K) | (with_reducible first | refine rgn_nil (by first | trivial | kernel_rfl) ?_ | refine AWP.seq ?_ | refine tX hC hP (by kernel_rfl) ?_ | refine aX hC hM hP (by kernel_rfl) ?_ | refine AWP.skip ?_ | refine AWP.label ?_ | refine AWP.exit ?_ | refine AWP.block ?_ | refine cTa ?_ | refine cFa ?_) | simp only [qS, Nat.reduceEqDiff, ↓reduceIte]))
  refine AWP.loop (fun w : Nat × Nat => [(8, ⟨0, .val (.int .i64 ((c.length : Int) - 1 - (w.1 : Int)))⟩), (7, ⟨w.2, .own (.sl true 27 (rowsO (aftL m n (pc ll) c w.1)))⟩), (0, ⟨0, .val (.int .i64 m)⟩), (1, ⟨0, .val (.sl false 2 (intL c))⟩), (2, ⟨0, .val (.sl false 27 (rowsF ll))⟩)]) (fun w => w.1 ≤ c.length) (fun w => c.length - w.1) (0, 1) (Nat.zero_le _) (fun i => rfl) ?_ (fun w hw => ?_)
  · simp [Sub, lk, aftL]
  · obtain ⟨k, v⟩ := w
    simp only at hw ⊢
    by_cases hk : k < c.length
    · have hT := c_spec_l03Times m (aftL m n (pc ll) c k) ll n hm hm2 (aftL_pl hm n _ c k) hl hn hn2
      have h0 : 0 < (pmul m n (pc (aftL m n (pc ll) c k)) (pc ll)).length := by rw [pmul, tab2_length]; omega
      have hrow : (pmul m n (pc (aftL m n (pc ll) c k)) (pc ll)).getD 0 [] = tab n (fun v => cv2 (pc (aftL m n (pc ll) c k)) (pc ll) 0 v % m) := by rw [pmul, tab2_row (by omega), Nat.sub_zero]
      have h1 : 0 < (tab n (fun v => cv2 (pc (aftL m n (pc ll) c k)) (pc ll) 0 v % m)).length := by rw [tab_length]; omega
      have g1 : (tab n (fun v => cv2 (pc (aftL m n (pc ll) c k)) (pc ll) 0 v % m)).getD 0 0 = cv2 (pc (aftL m n (pc ll) c k)) (pc ll) 0 0 % m := tab_getD (by omega)
      have hx := at_bound hc hm (c.length - 1 - k)
      have hp := emod_b (cv2 (pc (aftL m n (pc ll) c k)) (pc ll) 0 0) m hm
      have hpl : (pmul m n (pc (aftL m n (pc ll) c k)) (pc ll)).length = n := tab2_length n _
      have hst : (pmul m n (pc (aftL m n (pc ll) c k)) (pc ll)).set 0 ((tab n (fun v => cv2 (pc (aftL m n (pc ll) c k)) (pc ll) 0 v % m)).set 0 ((cv2 (pc (aftL m n (pc ll) c k)) (pc ll) 0 0 % m + at' c (c.length - 1 - k)) % m)) = aftL m n (pc ll) c (k + 1) := tab2_set (fun a b _ => rfl)
      (repeat (first | ((with_reducible refine rgn_cons rfl (fun K hK => ?_)); simp only [go_sem, seval, ↓reduceIte, decide_true, decide_false, show (0 : Int) ≤ (c.length : Int) - 1 - (k : Int) by omega, decide_true, Int.le_refl, Int.toNat_zero, rowsO_at _ _ h0, rowsO_sizeT _ _ (Nat.le_of_lt h0), rowsO_length, hpl, show (0 : Int) < (n : Int) by omega, hrow, List.take_zero, sizeL_nil, Nat.zero_mul, Nat.mul_one, intL_get _ _ h1, sizeL_take _ _ (Nat.le_of_lt h1), tab_length, g1, Nat.sub_zero, show ((c.length : Int) - 1 - (k : Int)).toNat = c.length - 1 - k by omega, show (c.length : Int) - 1 - (k : Int) < (c.length : Int) by omega, intL_getD c (c.length - 1 - k) (by omega), show c.getD (c.length - 1 - k) 0 = at' c (c.length - 1 - k) from rfl, wid (cv2 (pc (aftL m n (pc ll) c k)) (pc ll) 0 0 % m + at' c (c.length - 1 - k)) (by omega) (by omega), tm (cv2 (pc (aftL m n (pc ll) c k)) (pc ll) 0 0 % m + at' c (c.length - 1 - k)) m (by omega), show m ≠ 0 by omega, rowsO_modify _ _ _ _ h0, hst, wid ((c.length : Int) - 1 - (k : Int) - 1) (by omega) (by omega)]; (first | refine hK _ _ _ (by simp only [go_sem, Nat.reduceEqDiff, ↓reduceIte]; rfl) ?_ | refine ⟨_, hT, hK _ _ _ (by simp only [go_sem, Nat.reduceEqDiff, ↓reduceIte]; rfl) ?_⟩); clear hK; clear K) | (with_reducible first | refine rgn_nil (by first | trivial | kernel_rfl) ?_ | refine AWP.seq ?_ | refine tX hC hP (by kernel_rfl) ?_ | refine aX hC hM hP (by kernel_rfl) ?_ | refine AWP.skip ?_ | refine AWP.label ?_ | refine AWP.exit ?_ | refine AWP.block ?_ | refine cTa ?_ | refine cFa ?_) | simp only [qS, Nat.reduceEqDiff, ↓reduceIte]))
      exact ⟨(k + 1, v + 1), by simp only; omega, by simp only; omega, by simp [Sub, lk]; omega⟩
    · (repeat (first | ((with_reducible refine rgn_cons rfl (fun K hK => ?_)); simp only [go_sem, seval, ↓reduceIte, decide_true, decide_false, show ¬ (0 : Int) ≤ (c.length : Int) - 1 - (k : Int) by omega, decide_false]; (refine hK _ _ _ (by simp only [go_sem, Nat.reduceEqDiff, ↓reduceIte]; rfl) ?_); clear hK; clear K) | (with_reducible first | refine rgn_nil (by first | trivial | kernel_rfl) ?_ | refine AWP.seq ?_ | refine tX hC hP (by kernel_rfl) ?_ | refine aX hC hM hP (by kernel_rfl) ?_ | refine AWP.skip ?_ | refine AWP.label ?_ | refine AWP.exit ?_ | refine AWP.block ?_ | refine cTa ?_ | refine cFa ?_) | simp only [qS, Nat.reduceEqDiff, ↓reduceIte]))
      (refine AWP.ret ?_; refine retOk1 (by simp only [go_sem, seval, ↓reduceIte, decide_true, decide_false]; rfl) ?_)
      rw [show k = c.length by omega]
end Go.Proofs.YtapdekacpecgiaaGreat
