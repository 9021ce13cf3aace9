/-
  The reference's planes of curves; homomorphisms.
-/
import Derived.Test.YtapdekacpecgiaaGreatIc
namespace Go.Proofs.YtapdekacpecgiaaGreat
open Go.RowKit
set_option linter.unusedSimpArgs false
set_option linter.unusedVariables false
set_option linter.unusedSectionVars false
set_option maxRecDepth 20000
-- The reference's planes of curves; homomorphisms.
def sijL (n : Nat) (t p q : Nat → Nat → Int) (m : Int) (i j k l u v : Nat) : Int := if (i ≤ u ∧ u < k ∧ j ≤ v) ∨ (u = k ∧ j ≤ v ∧ v < l) then sij n t p q i (j + 1) u v % m else sij n t p q i j u v % m
theorem sijL_start (n : Nat) (t p q : Nat → Nat → Int) (m : Int) (i j u v : Nat) : sijL n t p q m i j i j u v = sij n t p q i j u v % m := if_neg (by omega)
theorem sijL_at (n : Nat) (t p q : Nat → Nat → Int) (m : Int) (i j k l : Nat) : sijL n t p q m i j k l k l = sij n t p q i j k l % m := if_neg (by omega)
theorem sijL_set (n : Nat) (t p q : Nat → Nat → Int) (m : Int) {i j k l : Nat} (hk : i ≤ k) (hl : j ≤ l) (u v : Nat) : (if u = k ∧ v = l then sij n t p q i (j + 1) k l % m else sijL n t p q m i j k l u v) = sijL n t p q m i j k (l + 1) u v := by
  unfold sijL
  by_cases h : u = k ∧ v = l
  · rw [if_pos h, if_pos (by omega), h.1, h.2]
  · rw [if_neg h]
    by_cases h2 : (i ≤ u ∧ u < k ∧ j ≤ v) ∨ (u = k ∧ j ≤ v ∧ v < l)
    · rw [if_pos h2, if_pos (by omega)]
    · rw [if_neg h2, if_neg (by omega)]
theorem sijL_row {n : Nat} {t p q : Nat → Nat → Int} {m : Int} {i j k l u v : Nat} (hk : i ≤ k) (h : n ≤ k + l) (huv : u + v < n) : sijL n t p q m i j k l u v = sijL n t p q m i j (k + 1) j u v := by
  unfold sijL
  by_cases h2 : (i ≤ u ∧ u < k ∧ j ≤ v) ∨ (u = k ∧ j ≤ v ∧ v < l)
  · rw [if_pos h2, if_pos (by omega)]
  · rw [if_neg h2, if_neg (by omega)]
theorem sijL_end {n : Nat} {t p q : Nat → Nat → Int} {m : Int} {i j k u v : Nat} (h : n ≤ k ∨ t i j = 0) (hp : ∀ a b, b < a → b < n → p a b = 0) (hq : ∀ a b, b < a → b < n → q a b = 0) (huv : u + v < n) : sijL n t p q m i j k j u v = sij n t p q i (j + 1) u v % m := by
  unfold sijL
  split
  · rfl
  · rename_i h2
    rw [sij_step]
    rcases h with h | h
    · have : p i u * q j v = 0 := by
        by_cases h3 : u < i
        · rw [hp i u h3 (by omega), Int.zero_mul]
        · rw [hq j v (by omega) (by omega), Int.mul_zero]
      rw [this, Int.mul_zero, Int.add_zero]
    · rw [h, Int.zero_mul, Int.add_zero]
set_option maxHeartbeats 4000000 in
theorem c_spec_l03Both (m : Int) (ll : List (List Int)) (a b : List Int) (n : Nat) (hm : 1 < m) (hm2 : m ≤ 10000) (hl : Pl m n ll) (ha : ∀ x ∈ a, 0 ≤ x ∧ x < m) (hal : a.length = n) (hb : ∀ x ∈ b, 0 ≤ x ∧ x < m) (hbl : b.length = n) (ha0 : at' a 0 = 0) (hb0 : at' b 0 = 0) (hn : 1 ≤ n) (hn2 : n ≤ 1000) : AFn Tryz.prog 75 [.int .i64 m, .sl false 27 (rowsF ll), .sl false 2 (intL a), .sl false 2 (intL b)] (.sl true 27 (rowsO (bthT m n (pc ll) (pwC m a (n - 1)) (pwC m b (n - 1))))) := by
  refine AFn.of' ttOk (by decide) Tryz.func75 Tryz.ntmps75 (by rw [Tryz.results75]) (by rfl) (by rfl) (by simp) (by decide) (by simp only [go_sem, Nat.reduceAdd, ↓reduceIte]; rfl) mixed (fun C hP hM hC => ?_)
  have hm0 : m ≠ 0 := by omega
  have hZ0 := c_spec_l03Zero (n - 1) (by omega)
  rw [show n - 1 + 1 = n by omega] at hZ0
  have e0 : tab2 n (fun _ _ => 0) = tab2 n (fun u v => sij n (pc ll) (pwC m a (n - 1)) (pwC m b (n - 1)) 0 0 u v % m) := tab2_congr fun u v _ => by rw [sij_zero, Int.zero_emod]
  rw [e0] at hZ0
  have hpa := c_spec_l03Powers m a (n - 1) hm hm2 ha (by omega) (by omega)
  have hpb := c_spec_l03Powers m b (n - 1) hm hm2 hb (by omega) (by omega)
  rw [show n - 1 + 1 = n by omega] at hpa hpb
  have hlo : ∀ (c : List Int), at' c 0 = 0 → ∀ x y, y < x → y < n → pwC m c (n - 1) x y = 0 := fun c hc x y h1 h2 => pwC_low hc x y h1 (by omega)
  (repeat (first | ((with_reducible refine rgn_cons rfl (fun K hK => ?_)); simp only [go_sem, seval, ↓reduceIte, decide_true, decide_false, rowsF_length, hl.len, show IntKind.i64.wrap ((n : Int) - 1) = ((n - 1 : Nat) : Int) by rw [wid _ (by omega) (by omega)]; omega]; (first | refine hK _ _ _ (by simp only [go_sem, Nat.reduceEqDiff, ↓reduceIte]; rfl) ?_ | refine ⟨_, hpa, hK _ _ _ (by simp only [go_sem, Nat.reduceEqDiff, ↓reduceIte]; rfl) ?_⟩ | refine ⟨_, hpb, hK _ _ _ (by simp only [go_sem, Nat.reduceEqDiff, ↓reduceIte]; rfl) ?_⟩ | refine ⟨_, hZ0, hK _ _ _ (by simp only [go_sem, Nat.reduceEqDiff, ↓reduceIte]; rfl) ?_⟩); clear hK; clear K) | (with_reducible first | refine rgn_nil (by first | trivial | kernel_rfl) ?_ | refine AWP.seq ?_ | refine tX hC hP (by kernel_rfl) ?_ | refine aX hC hM hP (by kernel_rfl) ?_ | refine AWP.skip ?_ | refine AWP.label ?_ | refine AWP.exit ?_ | refine AWP.block ?_ | refine cTa ?_ | refine cFa ?_) | simp only [qS, Nat.reduceEqDiff, ↓reduceIte]))
  refine AWP.loop (fun i : Nat => [(13, ⟨0, .val (.int .i64 i)⟩), (9, ⟨0, .val (.int .i64 n)⟩), (10, ⟨1, .own (.sl true 27 (rowsO (pwSL m a (n - 1) n)))⟩), (11, ⟨1, .own (.sl true 27 (rowsO (pwSL m b (n - 1) n)))⟩), (12, ⟨1, .own (.sl true 27 (rowsO (tab2 n (fun u v => sij n (pc ll) (pwC m a (n - 1)) (pwC m b (n - 1)) i 0 u v % m))))⟩), (0, ⟨0, .val (.int .i64 m)⟩), (1, ⟨0, .val (.sl false 27 (rowsF ll))⟩)]) (fun i => i ≤ n) (fun i => n - i) 0 (Nat.zero_le _) (fun i => rfl) ?_ (fun i hi => ?_)
  · simp [Sub, lk]
  · by_cases hin : i < n
    · have hrow := hl.row i hin
      (repeat (first | ((with_reducible refine rgn_cons rfl (fun K hK => ?_)); simp only [go_sem, seval, ↓reduceIte, decide_true, decide_false, show (i : Int) < (n : Int) by omega, decide_true]; (refine hK _ _ _ (by simp only [go_sem, Nat.reduceEqDiff, ↓reduceIte]; rfl) ?_); clear hK; clear K) | (with_reducible first | refine rgn_nil (by first | trivial | kernel_rfl) ?_ | refine AWP.seq ?_ | refine tX hC hP (by kernel_rfl) ?_ | refine aX hC hM hP (by kernel_rfl) ?_ | refine AWP.skip ?_ | refine AWP.label ?_ | refine AWP.exit ?_ | refine AWP.block ?_ | refine cTa ?_ | refine cFa ?_) | simp only [qS, Nat.reduceEqDiff, ↓reduceIte]))
      refine AWP.loop (fun j : Nat => [(14, ⟨0, .val (.int .i64 j)⟩), (13, ⟨0, .val (.int .i64 i)⟩), (9, ⟨0, .val (.int .i64 n)⟩), (10, ⟨1, .own (.sl true 27 (rowsO (pwSL m a (n - 1) n)))⟩), (11, ⟨1, .own (.sl true 27 (rowsO (pwSL m b (n - 1) n)))⟩), (12, ⟨1, .own (.sl true 27 (rowsO (tab2 n (fun u v => sij n (pc ll) (pwC m a (n - 1)) (pwC m b (n - 1)) i j u v % m))))⟩), (0, ⟨0, .val (.int .i64 m)⟩), (1, ⟨0, .val (.sl false 27 (rowsF ll))⟩)]) (fun j => i + j ≤ n) (fun j => n - j) 0 (by omega) (fun i => rfl) ?_ (fun j hj => ?_)
      · simp [Sub, lk]
      · have w1 := widK (i + j) (by omega)
        by_cases hjn : i + j < n
        · have hj1 : j < (ll.getD i []).length := by omega
          have hx := hl.num i j
          have e1 : tab2 n (fun u v => sij n (pc ll) (pwC m a (n - 1)) (pwC m b (n - 1)) i j u v % m) = tab2 n (fun u v => sijL n (pc ll) (pwC m a (n - 1)) (pwC m b (n - 1)) m i j i j u v) := tab2_congr fun u v _ => (sijL_start _ _ _ _ _ _ _ _ _).symm
          (repeat (first | ((with_reducible refine rgn_cons rfl (fun K hK => ?_)); simp only [go_sem, seval, ↓reduceIte, decide_true, decide_false, ← Int.natCast_add, w1, show ((i + j : Nat) : Int) < (n : Int) by omega, decide_true]; (refine hK _ _ _ (by simp only [go_sem, Nat.reduceEqDiff, ↓reduceIte]; rfl) ?_); clear hK; clear K) | (with_reducible first | refine rgn_nil (by first | trivial | kernel_rfl) ?_ | refine AWP.seq ?_ | refine tX hC hP (by kernel_rfl) ?_ | refine aX hC hM hP (by kernel_rfl) ?_ | refine AWP.skip ?_ | refine AWP.label ?_ | refine AWP.exit ?_ | refine AWP.block ?_ | refine cTa ?_ | refine cFa ?_) | simp only [qS, Nat.reduceEqDiff, ↓reduceIte]))
          refine AWP.loop (fun k : Nat => [(15, ⟨0, .val (.int .i64 k)⟩), (14, ⟨0, .val (.int .i64 j)⟩), (13, ⟨0, .val (.int .i64 i)⟩), (9, ⟨0, .val (.int .i64 n)⟩), (10, ⟨1, .own (.sl true 27 (rowsO (pwSL m a (n - 1) n)))⟩), (11, ⟨1, .own (.sl true 27 (rowsO (pwSL m b (n - 1) n)))⟩), (12, ⟨1, .own (.sl true 27 (rowsO (tab2 n (fun u v => sijL n (pc ll) (pwC m a (n - 1)) (pwC m b (n - 1)) m i j k j u v))))⟩), (0, ⟨0, .val (.int .i64 m)⟩), (1, ⟨0, .val (.sl false 27 (rowsF ll))⟩)]) (fun k => i ≤ k ∧ k ≤ n) (fun k => n - k) i ⟨Nat.le_refl _, by omega⟩ (fun i => rfl) ?_ (fun k hk => ?_)
          · simp [Sub, lk, ← e1]
          · by_cases hgo : k < n ∧ pc ll i j ≠ 0
            · have hkl : k < (tab2 n (fun u v => sijL n (pc ll) (pwC m a (n - 1)) (pwC m b (n - 1)) m i j k j u v)).length := by rw [tab2_length]; omega
              (repeat (first | ((with_reducible refine rgn_cons rfl (fun K hK => ?_)); simp only [go_sem, seval, ↓reduceIte, decide_true, decide_false, show (k : Int) < (n : Int) by omega, decide_true, rowsF_getD ll i (by rw [hl.len]; exact hin), rowsF_length, hl.len, Int.toNat_natCast, Int.natCast_nonneg, show (i : Int) < (n : Int) by omega, intL_getD _ j hj1, hrow, show ((j : Nat) : Int) < ((n - i : Nat) : Int) by omega, show (ll.getD i []).getD j 0 = pc ll i j from rfl, show (pc ll i j != 0) = true by rw [bne_iff_ne]; exact hgo.2, rowsO_at _ _ hkl, rowsO_sizeT _ _ (Nat.le_of_lt hkl), rowsO_length, tab2_length, Nat.mul_one]; (refine hK _ _ _ (by simp only [go_sem, Nat.reduceEqDiff, ↓reduceIte]; rfl) ?_); clear hK; clear K) | (with_reducible first | refine rgn_nil (by first | trivial | kernel_rfl) ?_ | refine AWP.seq ?_ | refine tX hC hP (by kernel_rfl) ?_ | refine aX hC hM hP (by kernel_rfl) ?_ | refine AWP.skip ?_ | refine AWP.label ?_ | refine AWP.exit ?_ | refine AWP.block ?_ | refine cTa ?_ | refine cFa ?_) | simp only [qS, Nat.reduceEqDiff, ↓reduceIte]))
              refine AWP.loop (fun l : Nat => [(17, ⟨0, .val (.int .i64 l)⟩), (16, ⟨0, .val (.ref 12 1 [k])⟩), (15, ⟨0, .val (.int .i64 k)⟩), (14, ⟨0, .val (.int .i64 j)⟩), (13, ⟨0, .val (.int .i64 i)⟩), (9, ⟨0, .val (.int .i64 n)⟩), (10, ⟨1, .own (.sl true 27 (rowsO (pwSL m a (n - 1) n)))⟩), (11, ⟨1, .own (.sl true 27 (rowsO (pwSL m b (n - 1) n)))⟩), (12, ⟨1, .own (.sl true 27 (rowsO (tab2 n (fun u v => sijL n (pc ll) (pwC m a (n - 1)) (pwC m b (n - 1)) m i j k l u v))))⟩), (0, ⟨0, .val (.int .i64 m)⟩), (1, ⟨0, .val (.sl false 27 (rowsF ll))⟩)]) (fun l => j ≤ l ∧ (l ≤ n - k ∨ l = j)) (fun l => n - l) j ⟨Nat.le_refl _, .inr rfl⟩ (fun i => rfl) ?_ (fun l hl2 => ?_)
              · simp [Sub, lk]
              · have w2 := widK (k + l) (by omega)
                by_cases hln : k + l < n
                · have hkl2 : k < (tab2 n (fun u v => sijL n (pc ll) (pwC m a (n - 1)) (pwC m b (n - 1)) m i j k l u v)).length := by rw [tab2_length]; omega
                  have hc : l < (tab (n - k) (sijL n (pc ll) (pwC m a (n - 1)) (pwC m b (n - 1)) m i j k l k)).length := by rw [tab_length]; omega
                  have g1 : (tab (n - k) (sijL n (pc ll) (pwC m a (n - 1)) (pwC m b (n - 1)) m i j k l k)).getD l 0 = sij n (pc ll) (pwC m a (n - 1)) (pwC m b (n - 1)) i j k l % m := by rw [tab_getD (by omega), sijL_at]
                  have hp := pwS_facts hm a (n - 1) i
                  have hq := pwS_facts hm b (n - 1) j
                  have hii : i < (pwSL m a (n - 1) n).length := by rw [pwSL_length]; exact hin
                  have hjj : j < (pwSL m b (n - 1) n).length := by rw [pwSL_length]; omega
                  have f1 : 0 ≤ pwC m a (n - 1) i k ∧ pwC m a (n - 1) i k < m := at_bound hp.2 (by omega) k
                  have f2 : 0 ≤ pwC m b (n - 1) j l ∧ pwC m b (n - 1) j l < m := at_bound hq.2 (by omega) l
                  have b1 := mul_bound4 hx.1 hx.2 f1.1 f1.2 hm2
                  have e3 := emod_b (pc ll i j * pwC m a (n - 1) i k) m (by omega)
                  have b2 := mul_bound4 e3.1 e3.2 f2.1 f2.2 hm2
                  have e4 := emod_b (sij n (pc ll) (pwC m a (n - 1)) (pwC m b (n - 1)) i j k l) m (by omega)
                  have g3 : (sij n (pc ll) (pwC m a (n - 1)) (pwC m b (n - 1)) i j k l % m + pc ll i j * pwC m a (n - 1) i k % m * pwC m b (n - 1) j l) % m = sij n (pc ll) (pwC m a (n - 1)) (pwC m b (n - 1)) i (j + 1) k l % m := by
                    rw [sij_step, Int.emod_add_emod, ← Int.mul_assoc, Int.add_emod, mul_emod_l, ← Int.add_emod]
                  have hst : (tab2 n (fun u v => sijL n (pc ll) (pwC m a (n - 1)) (pwC m b (n - 1)) m i j k l u v)).set k ((tab (n - k) (sijL n (pc ll) (pwC m a (n - 1)) (pwC m b (n - 1)) m i j k l k)).set l (sij n (pc ll) (pwC m a (n - 1)) (pwC m b (n - 1)) i (j + 1) k l % m)) = tab2 n (fun u v => sijL n (pc ll) (pwC m a (n - 1)) (pwC m b (n - 1)) m i j k (l + 1) u v) := tab2_set (fun x y _ => sijL_set _ _ _ _ _ hk.1 hl2.1 x y)
                  (repeat (first | ((with_reducible refine rgn_cons rfl (fun K hK => ?_)); simp only [go_sem, seval, ↓reduceIte, decide_true, decide_false, ← Int.natCast_add, w2, show ((k + l : Nat) : Int) < (n : Int) by omega, decide_true, rowsO_at _ _ hkl2, rowsO_sizeT _ _ (Nat.le_of_lt hkl2), rowsO_length, tab2_length, tab2_row (show k < n by omega), Nat.mul_one, intL_get _ _ hc, sizeL_take _ _ (Nat.le_of_lt hc), tab_length, g1, show (l : Int) < ((n - k : Nat) : Int) by omega, rowsF_getD ll i (by rw [hl.len]; exact hin), rowsF_length, hl.len, Int.toNat_natCast, Int.natCast_nonneg, show (i : Int) < (n : Int) by omega, show (j : Int) < (n : Int) by omega, intL_getD _ j hj1, hrow, show ((j : Nat) : Int) < ((n - i : Nat) : Int) by omega, show (ll.getD i []).getD j 0 = pc ll i j from rfl, rowsO_at _ _ hii, rowsO_sizeT _ _ (Nat.le_of_lt hii), rowsO_at _ _ hjj, rowsO_sizeT _ _ (Nat.le_of_lt hjj), pwSL_length, pwSL_getD (show i < n by omega), pwSL_getD (show j < n by omega), intL_get (pwS m a (n - 1) i) k (by omega), intL_get (pwS m b (n - 1) j) l (by omega), sizeL_take (pwS m a (n - 1) i) k (by omega), sizeL_take (pwS m b (n - 1) j) l (by omega), hp.1, hq.1, show (k : Int) < ((n - 1 + 1 : Nat) : Int) by omega, show (l : Int) < ((n - 1 + 1 : Nat) : Int) by omega, show (pwS m a (n - 1) i).getD k 0 = pwC m a (n - 1) i k from rfl, show (pwS m b (n - 1) j).getD l 0 = pwC m b (n - 1) j l from rfl, wid (pc ll i j * pwC m a (n - 1) i k) (by omega) (by omega), tm (pc ll i j * pwC m a (n - 1) i k) m (by omega), wid (pc ll i j * pwC m a (n - 1) i k % m * pwC m b (n - 1) j l) (by omega) (by omega), wid (sij n (pc ll) (pwC m a (n - 1)) (pwC m b (n - 1)) i j k l % m + pc ll i j * pwC m a (n - 1) i k % m * pwC m b (n - 1) j l) (by omega) (by omega), tm (sij n (pc ll) (pwC m a (n - 1)) (pwC m b (n - 1)) i j k l % m + pc ll i j * pwC m a (n - 1) i k % m * pwC m b (n - 1) j l) m (by omega), g3, hm0, rowsO_modify _ _ _ _ hkl2, hst, wid ((l : Int) + 1) (by omega) (by omega)]; (refine hK _ _ _ (by simp only [go_sem, Nat.reduceEqDiff, ↓reduceIte]; rfl) ?_); clear hK; clear K) | (with_reducible first | refine rgn_nil (by first | trivial | kernel_rfl) ?_ | refine AWP.seq ?_ | refine tX hC hP (by kernel_rfl) ?_ | refine aX hC hM hP (by kernel_rfl) ?_ | refine AWP.skip ?_ | refine AWP.label ?_ | refine AWP.exit ?_ | refine AWP.block ?_ | refine cTa ?_ | refine cFa ?_) | simp only [qS, Nat.reduceEqDiff, ↓reduceIte]))
                  exact ⟨l + 1, ⟨by omega, .inl (by omega)⟩, by omega, by simp [Sub, lk]⟩
                · have hE : tab2 n (fun u v => sijL n (pc ll) (pwC m a (n - 1)) (pwC m b (n - 1)) m i j k l u v) = tab2 n (fun u v => sijL n (pc ll) (pwC m a (n - 1)) (pwC m b (n - 1)) m i j (k + 1) j u v) := tab2_congr fun u v huv => sijL_row hk.1 (by omega) huv
                  (repeat (first | ((with_reducible refine rgn_cons rfl (fun K hK => ?_)); simp only [go_sem, seval, ↓reduceIte, decide_true, decide_false, ← Int.natCast_add, w2, show ¬ ((k + l : Nat) : Int) < (n : Int) by omega, decide_false, wid ((k : Int) + 1) (by omega) (by omega)]; (refine hK _ _ _ (by simp only [go_sem, Nat.reduceEqDiff, ↓reduceIte]; rfl) ?_); clear hK; clear K) | (with_reducible first | refine rgn_nil (by first | trivial | kernel_rfl) ?_ | refine AWP.seq ?_ | refine tX hC hP (by kernel_rfl) ?_ | refine aX hC hM hP (by kernel_rfl) ?_ | refine AWP.skip ?_ | refine AWP.label ?_ | refine AWP.exit ?_ | refine AWP.block ?_ | refine cTa ?_ | refine cFa ?_) | simp only [qS, Nat.reduceEqDiff, ↓reduceIte]))
                  exact ⟨k + 1, ⟨by omega, by omega⟩, by omega, by simp only [hE]; simp [Sub, lk]⟩
            · have hE : tab2 n (fun u v => sijL n (pc ll) (pwC m a (n - 1)) (pwC m b (n - 1)) m i j k j u v) = tab2 n (fun u v => sij n (pc ll) (pwC m a (n - 1)) (pwC m b (n - 1)) i (j + 1) u v % m) := tab2_congr fun u v huv => sijL_end (by
                by_cases h9 : pc ll i j = 0
                · exact .inr h9
                · exact .inl (Nat.le_of_not_lt fun h => hgo ⟨h, h9⟩)) (hlo a ha0) (hlo b hb0) huv
              by_cases hkn : k < n
              · have h9 : pc ll i j = 0 := Classical.byContradiction fun h => hgo ⟨hkn, h⟩
                (repeat (first | ((with_reducible refine rgn_cons rfl (fun K hK => ?_)); simp only [go_sem, seval, ↓reduceIte, decide_true, decide_false, show (k : Int) < (n : Int) by omega, decide_true, rowsF_getD ll i (by rw [hl.len]; exact hin), rowsF_length, hl.len, Int.toNat_natCast, Int.natCast_nonneg, show (i : Int) < (n : Int) by omega, intL_getD _ j hj1, hrow, show ((j : Nat) : Int) < ((n - i : Nat) : Int) by omega, show (ll.getD i []).getD j 0 = pc ll i j from rfl, h9, show ((0 : Int) != 0) = false from rfl, wid ((j : Int) + 1) (by omega) (by omega)]; (refine hK _ _ _ (by simp only [go_sem, Nat.reduceEqDiff, ↓reduceIte]; rfl) ?_); clear hK; clear K) | (with_reducible first | refine rgn_nil (by first | trivial | kernel_rfl) ?_ | refine AWP.seq ?_ | refine tX hC hP (by kernel_rfl) ?_ | refine aX hC hM hP (by kernel_rfl) ?_ | refine AWP.skip ?_ | refine AWP.label ?_ | refine AWP.exit ?_ | refine AWP.block ?_ | refine cTa ?_ | refine cFa ?_) | simp only [qS, Nat.reduceEqDiff, ↓reduceIte]))
                exact ⟨j + 1, by omega, by omega, by simp only [hE]; simp [Sub, lk]⟩
              · (repeat (first | ((with_reducible refine rgn_cons rfl (fun K hK => ?_)); simp only [go_sem, seval, ↓reduceIte, decide_true, decide_false, show ¬ (k : Int) < (n : Int) by omega, decide_false, wid ((j : Int) + 1) (by omega) (by omega)]; (refine hK _ _ _ (by simp only [go_sem, Nat.reduceEqDiff, ↓reduceIte]; rfl) ?_); clear hK; clear K) | (with_reducible first | refine rgn_nil (by first | trivial | kernel_rfl) ?_ | refine AWP.seq ?_ | refine tX hC hP (by kernel_rfl) ?_ | refine aX hC hM hP (by kernel_rfl) ?_ | refine AWP.skip ?_ | refine AWP.label ?_ | refine AWP.exit ?_ | refine AWP.block ?_ | refine cTa ?_ | refine cFa ?_) | simp only [qS, Nat.reduceEqDiff, ↓reduceIte]))
                exact ⟨j + 1, by omega, by omega, by simp only [hE]; simp [Sub, lk]⟩
        · have hE : tab2 n (fun u v => sij n (pc ll) (pwC m a (n - 1)) (pwC m b (n - 1)) i j u v % m) = tab2 n (fun u v => sij n (pc ll) (pwC m a (n - 1)) (pwC m b (n - 1)) (i + 1) 0 u v % m) := tab2_congr fun u v _ => by rw [show j = n - i by omega, sij_next]
          (repeat (first | ((with_reducible refine rgn_cons rfl (fun K hK => ?_)); simp only [go_sem, seval, ↓reduceIte, decide_true, decide_false, ← Int.natCast_add, w1, show ¬ ((i + j : Nat) : Int) < (n : Int) by omega, decide_false, wid ((i : Int) + 1) (by omega) (by omega)]; (refine hK _ _ _ (by simp only [go_sem, Nat.reduceEqDiff, ↓reduceIte]; rfl) ?_); clear hK; clear K) | (with_reducible first | refine rgn_nil (by first | trivial | kernel_rfl) ?_ | refine AWP.seq ?_ | refine tX hC hP (by kernel_rfl) ?_ | refine aX hC hM hP (by kernel_rfl) ?_ | refine AWP.skip ?_ | refine AWP.label ?_ | refine AWP.exit ?_ | refine AWP.block ?_ | refine cTa ?_ | refine cFa ?_) | simp only [qS, Nat.reduceEqDiff, ↓reduceIte]))
          exact ⟨i + 1, by omega, by omega, by simp only [hE]; simp [Sub, lk]⟩
    · have hie : i = n := by omega
      subst hie
      (repeat (first | ((with_reducible refine rgn_cons rfl (fun K hK => ?_)); simp only [go_sem, seval, ↓reduceIte, decide_true, decide_false, show ¬ (i : Int) < (i : Int) by omega, decide_false]; (refine hK _ _ _ (by simp only [go_sem, Nat.reduceEqDiff, ↓reduceIte]; rfl) ?_); clear hK; clear K) | (with_reducible first | refine rgn_nil (by first | trivial | kernel_rfl) ?_ | refine AWP.seq ?_ | refine tX hC hP (by kernel_rfl) ?_ | refine aX hC hM hP (by kernel_rfl) ?_ | refine AWP.skip ?_ | refine AWP.label ?_ | refine AWP.exit ?_ | refine AWP.block ?_ | refine cTa ?_ | refine cFa ?_) | simp only [qS, Nat.reduceEqDiff, ↓reduceIte]))
      (refine AWP.ret ?_; refine retOk1 (by simp only [go_sem, seval, ↓reduceIte, decide_true, decide_false]; rfl) ?_)
      rfl
end Go.Proofs.YtapdekacpecgiaaGreat
