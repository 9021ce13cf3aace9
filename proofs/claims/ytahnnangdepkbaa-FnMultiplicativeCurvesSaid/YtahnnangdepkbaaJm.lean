/-
  The multiplicative law is a law.
-/
import Derived.Test.YtahnnangdepkbaaJl
namespace Go.Proofs.Ytahnnangdepkbaa
open Go.RowKit
set_option linter.unusedSimpArgs false
set_option linter.unusedVariables false
set_option linter.unusedSectionVars false
set_option maxRecDepth 20000
-- The multiplicative law is a law.
theorem mulT_num {m : Int} (hm : 1 < m) (i j : Nat) : 0 ≤ mulT m i j ∧ mulT m i j < m := by
  unfold mulT
  split
  · omega
  · split <;> omega
theorem mul_pl {m : Int} (hm : 1 < m) (n : Nat) : Pl m n (tab2 n (mulT m)) := Pl.tab2 (by omega) fun i j _ => mulT_num hm i j
theorem pwP0_at {m : Int} (hm : 1 < m) {n : Nat} {t : Nat → Nat → Int} {u v : Nat} (h : u + v < n) : pc (pwP m n t 0) u v = if u = 0 ∧ v = 0 then 1 else 0 := by
  rw [pwP, numP, pc_tab2 h, Int.emod_eq_of_lt (by omega) (by omega)]
theorem pwP1_at {m : Int} (hm : 1 < m) {n : Nat} {t : Nat → Nat → Int} {u v : Nat} (h : u + v < n) (ht : 0 ≤ t u v ∧ t u v < m) : pc (pwP m n t 1) u v = t u v := by
  rw [pwP, pmul, pc_tab2 h]
  have e : cv2 (pc (pwP m n t 0)) t u v = t u v := by
    unfold cv2
    rw [sm_one (show 0 < u + 1 by omega) (p := 0) fun i hi h0 => sm_zero fun j hj => by rw [pwP0_at hm (by omega), if_neg (by omega), Int.zero_mul]]
    rw [sm_one (show 0 < v + 1 by omega) (p := 0) fun j hj h0 => by rw [pwP0_at hm (by omega), if_neg (by omega), Int.zero_mul]]
    rw [pwP0_at hm (by omega), if_pos ⟨rfl, rfl⟩, Int.one_mul]; rfl
  rw [e, Int.emod_eq_of_lt ht.1 ht.2]
theorem sm_lead2 {k : Nat} {f : Nat → Int} (hk : 2 ≤ k) (h : ∀ i, i < k → 2 ≤ i → f i = 0) : sm k f = f 0 + f 1 := by
  obtain ⟨q, rfl⟩ : ∃ q, k = q + 2 := ⟨k - 2, by omega⟩
  rw [sm_succ_left, sm_succ_left, sm_zero fun i hi => h (i + 1 + 1) (by omega) (by omega), Int.add_zero]
theorem lf_mul {m : Int} (hm : 1 < m) {n : Nat} (hn : 3 ≤ n) {a b c : Nat} (h : a + b + c < n) : lfS m n (pc (tab2 n (mulT m))) a b c = if c = 0 then mulT m a b else if c = 1 then (if a = 0 ∧ b = 0 then 1 else 0) + (m - 1) * mulT m a b else 0 := by
  have hP1 := pwP1_at hm (n := n) (t := pc (tab2 n (mulT m))) (u := a) (v := b) (by omega) ((mul_pl hm n).num a b)
  rw [pc_tab2 (by omega)] at hP1
  have hP0 := pwP0_at hm (n := n) (t := pc (tab2 n (mulT m))) (u := a) (v := b) (by omega)
  unfold lfS
  by_cases h0 : c = 0
  · subst h0
    rw [if_pos rfl, sm_lead2 (show 2 ≤ n - 0 by omega) fun i hi h2 => by rw [pc_tab2 (by omega), mulT, if_neg (by omega), if_neg (by omega), Int.zero_mul]]
    rw [pc_tab2 (by omega), pc_tab2 (by omega), hP1, mulT, if_neg (by omega), if_neg (by omega), mulT, if_pos (by omega), Int.zero_mul, Int.one_mul, Int.zero_add]
  · rw [if_neg h0]
    by_cases h1 : c = 1
    · subst h1
      rw [if_pos rfl, sm_lead2 (show 2 ≤ n - 1 by omega) fun i hi h2 => by rw [pc_tab2 (by omega), mulT, if_neg (by omega), if_neg (by omega), Int.zero_mul]]
      rw [pc_tab2 (by omega), pc_tab2 (by omega), hP1, hP0, show mulT m 0 1 = 1 from if_pos (by omega), show mulT m 1 1 = m - 1 by rw [mulT, if_neg (by omega), if_pos ⟨rfl, rfl⟩], Int.one_mul]
    · rw [if_neg h1]
      exact sm_zero fun i hi => by rw [pc_tab2 (by omega), mulT, if_neg (by omega), if_neg (by omega), Int.zero_mul]
theorem rt_mul {m : Int} (hm : 1 < m) {n : Nat} (hn : 3 ≤ n) {a b c : Nat} (h : a + b + c < n) : rtS m n (pc (tab2 n (mulT m))) a b c = if a = 0 then mulT m b c else if a = 1 then (if b = 0 ∧ c = 0 then 1 else 0) + (m - 1) * mulT m b c else 0 := by
  have hP1 := pwP1_at hm (n := n) (t := pc (tab2 n (mulT m))) (u := b) (v := c) (by omega) ((mul_pl hm n).num b c)
  rw [pc_tab2 (by omega)] at hP1
  have hP0 := pwP0_at hm (n := n) (t := pc (tab2 n (mulT m))) (u := b) (v := c) (by omega)
  unfold rtS
  by_cases h0 : a = 0
  · subst h0
    rw [if_pos rfl, sm_lead2 (show 2 ≤ n - 0 by omega) fun i hi h2 => by rw [pc_tab2 (by omega), mulT, if_neg (by omega), if_neg (by omega), Int.zero_mul]]
    rw [pc_tab2 (by omega), pc_tab2 (by omega), hP1, mulT, if_neg (by omega), if_neg (by omega), mulT, if_pos (by omega), Int.zero_mul, Int.one_mul, Int.zero_add]
  · rw [if_neg h0]
    by_cases h1 : a = 1
    · subst h1
      rw [if_pos rfl, sm_lead2 (show 2 ≤ n - 1 by omega) fun i hi h2 => by rw [pc_tab2 (by omega), mulT, if_neg (by omega), if_neg (by omega), Int.zero_mul]]
      rw [pc_tab2 (by omega), pc_tab2 (by omega), hP1, hP0, show mulT m 1 0 = 1 from if_pos (by omega), show mulT m 1 1 = m - 1 by rw [mulT, if_neg (by omega), if_pos ⟨rfl, rfl⟩], Int.one_mul]
    · rw [if_neg h1]
      exact sm_zero fun i hi => by rw [pc_tab2 (by omega), mulT, if_neg (by omega), if_neg (by omega), Int.zero_mul]
theorem mul_as (m : Int) (a b c : Nat) : (if c = 0 then mulT m a b else if c = 1 then (if a = 0 ∧ b = 0 then 1 else 0) + (m - 1) * mulT m a b else 0) = if a = 0 then mulT m b c else if a = 1 then (if b = 0 ∧ c = 0 then 1 else 0) + (m - 1) * mulT m b c else 0 := by
  have z : ∀ i j, 2 ≤ i ∨ 2 ≤ j → mulT m i j = 0 := fun i j h => by rw [mulT, if_neg (by omega), if_neg (by omega)]
  by_cases hc : 2 ≤ c
  · rw [if_neg (by omega), if_neg (by omega), z b c (.inr hc), if_neg (show ¬ (b = 0 ∧ c = 0) by omega)]
    split
    · rfl
    · split <;> simp
  by_cases ha : 2 ≤ a
  · rw [if_neg (show ¬ a = 0 by omega), if_neg (show ¬ a = 1 by omega), z a b (.inl ha), if_neg (show ¬ (a = 0 ∧ b = 0) by omega)]
    split
    · rfl
    · split <;> simp
  by_cases hb : 2 ≤ b
  · rw [z a b (.inr hb), z b c (.inl hb), if_neg (show ¬ (a = 0 ∧ b = 0) by omega), if_neg (show ¬ (b = 0 ∧ c = 0) by omega)]
    simp
  rcases (show a = 0 ∨ a = 1 by omega) with rfl | rfl <;> rcases (show b = 0 ∨ b = 1 by omega) with rfl | rfl <;> rcases (show c = 0 ∨ c = 1 by omega) with rfl | rfl <;> simp [mulT]
theorem mul_law {m : Int} (hm : 1 < m) (hm2 : m ≤ 10000) {d : Nat} (hd : 2 ≤ d) (hd2 : d ≤ 10) : lawB m (tab2 (d + 1) (mulT m)) = true := by
  have hp := mul_pl hm (d + 1)
  have h1 : isPl m (tab2 (d + 1) (mulT m)) = true := by
    refine isPl_all (by simp; omega) (by rw [tab2_length]; simp; omega) fun i hi => ?_
    rw [tab2_length] at hi
    rw [rowB, tab2_row hi, tab_length, tab2_length]
    simp only [Bool.and_eq_true, beq_iff_eq, List.all_eq_true, isNum, decide_eq_true_eq]
    refine ⟨trivial, fun x hx => ?_⟩
    obtain ⟨j, _, rfl⟩ := mem_tab.1 hx
    have := mulT_num hm i j
    omega
  rw [lawB, h1, Bool.true_and]
  refine @decide_eq_true _ (Classical.propDecidable _) ?_
  rw [tab2_length]
  refine ⟨fun i hi => ?_, fun i j hij hn => ?_, fun a b c h => ?_⟩
  · rw [ok1, pc_tab2 (by omega), mulT]
    by_cases h : i = 1
    · rw [if_pos (by omega), if_pos h]
    · rw [if_neg (by omega), if_neg (by omega), if_neg h]
  · rw [pc_tab2 hn, pc_tab2 (by omega), mulT, mulT]
    by_cases h : i + j = 1
    · rw [if_pos h, if_pos (by omega)]
    · rw [if_neg h, if_neg (by omega), if_neg (by omega), if_neg (by omega)]
  · rw [lf_mul hm (by omega) h, rt_mul hm (by omega) h, mul_as]
/-- The parts of the sum that tells the law. -/
theorem mul_parts {m : Int} (hm : 1 < m) {d : Nat} (hd : 1 ≤ d) : tab2 (d + 1) (fun u v => (pc (tab2 (d + 1) (fun u v => (pc (tab2 (d + 1) (axX (varL d) (d + 1))) u v + pc (tab2 (d + 1) (axY (varL d) (d + 1))) u v) % m)) u v + pc (tab2 (d + 1) (fun u v => (m - 1) % m * pc (pmul m (d + 1) (pc (tab2 (d + 1) (axX (varL d) (d + 1)))) (pc (tab2 (d + 1) (axY (varL d) (d + 1))))) u v % m % m)) u v) % m) = tab2 (d + 1) (mulT m) := tab2_congr fun u v huv => by
  have hv : ∀ i, i < d + 1 → at' (varL d) i = if i = 1 then 1 else 0 := fun i hi => by rw [varL, at_tab hi]
  have hX : ∀ i j, i + j < d + 1 → pc (tab2 (d + 1) (axX (varL d) (d + 1))) i j = if i = 1 ∧ j = 0 then 1 else 0 := fun i j hij => by
    rw [pc_tab2 hij, axX]
    by_cases h : j = 0
    · rw [if_pos ⟨h, by omega⟩, hv i (by omega)]
      by_cases h1 : i = 1
      · rw [if_pos h1, if_pos ⟨h1, h⟩]
      · rw [if_neg h1, if_neg (fun e => h1 e.1)]
    · rw [if_neg (fun e => h e.1), if_neg (fun e => h e.2)]
  have hY : ∀ i j, i + j < d + 1 → pc (tab2 (d + 1) (axY (varL d) (d + 1))) i j = if i = 0 ∧ j = 1 then 1 else 0 := fun i j hij => by
    rw [pc_tab2 hij, axY]
    by_cases h : i = 0
    · rw [if_pos ⟨h, by omega⟩, hv j (by omega)]
      by_cases h1 : j = 1
      · rw [if_pos h1, if_pos ⟨h, h1⟩]
      · rw [if_neg h1, if_neg (fun e => h1 e.2)]
    · rw [if_neg (fun e => h e.1), if_neg (fun e => h e.1)]
  have hXY : cv2 (pc (tab2 (d + 1) (axX (varL d) (d + 1)))) (pc (tab2 (d + 1) (axY (varL d) (d + 1)))) u v = if u = 1 ∧ v = 1 then 1 else 0 := by
    unfold cv2
    by_cases h1 : 1 ≤ u
    · rw [sm_one (show 1 < u + 1 by omega) (p := 1) fun i hi h0 => sm_zero fun j hj => by rw [hX i j (by omega), if_neg (by omega), Int.zero_mul]]
      rw [sm_one (show 0 < v + 1 by omega) (p := 0) fun j hj h0 => by rw [hX 1 j (by omega), if_neg (by omega), Int.zero_mul]]
      rw [hX 1 0 (by omega), if_pos ⟨rfl, rfl⟩, Int.one_mul, hY (u - 1) (v - 0) (by omega)]
      by_cases h2 : u = 1 ∧ v = 1
      · rw [if_pos h2, if_pos (by omega)]
      · rw [if_neg h2, if_neg (by omega)]
    · rw [if_neg (by omega)]
      exact sm_zero fun i hi => sm_zero fun j hj => by rw [hX i j (by omega), if_neg (by omega), Int.zero_mul]
  obtain ⟨X, hX0⟩ : ∃ X, tab2 (d + 1) (axX (varL d) (d + 1)) = X := ⟨_, rfl⟩
  obtain ⟨Y, hY0⟩ : ∃ Y, tab2 (d + 1) (axY (varL d) (d + 1)) = Y := ⟨_, rfl⟩
  rw [hX0] at hX hXY
  rw [hY0] at hY hXY
  rw [hX0, hY0]
  rw [pc_tab2 huv, pc_tab2 huv, pmul, pc_tab2 huv, hX u v huv, hY u v huv, hXY, Int.emod_eq_of_lt (show 0 ≤ m - 1 by omega) (show m - 1 < m by omega), mulT]
  by_cases h2 : u = 1 ∧ v = 1
  · have o1 : (1 : Int) % m = 1 := Int.emod_eq_of_lt (by omega) hm
    have o2 : (m - 1) % m = m - 1 := Int.emod_eq_of_lt (by omega) (by omega)
    obtain ⟨h3, h4⟩ := h2
    subst h3; subst h4
    simp [o1, o2]
  · rw [if_neg h2]
    have o1 : (1 : Int) % m = 1 := Int.emod_eq_of_lt (by omega) hm
    by_cases h1 : u + v = 1
    · rw [if_pos h1]
      by_cases h3 : u = 1
      · rw [if_pos ⟨h3, by omega⟩, if_neg (by omega)]; simp [o1]
      · rw [if_neg (fun e => h3 e.1), if_pos (by omega)]; simp [o1]
    · rw [if_neg h1, if_neg (by omega), if_neg (by omega), if_neg h2]; simp
set_option maxHeartbeats 1000000 in
theorem c_impl_MultiplicativeLaw (m : Int) (d : Nat) (hm : 1 < m) (hm2 : m ≤ 10000) (hd : 2 ≤ d) (hd2 : d ≤ 10) : AFn Try.prog 7 [.int .i64 m, .int .i64 d, .int .i64 (m - 1)] (.tup [.agg [.int .i64 m, .sl true 27 (rowsO (tab2 (d + 1) (mulT m)))], .int .i64 0]) := by
  refine AFn.of' ttOk (by decide) Try.func7 Try.ntmps7 (by rw [Try.results7]) (by rfl) (by rfl) (by simp) (by decide) (by simp only [go_sem, Nat.reduceAdd, ↓reduceIte]; rfl) mixed (fun C hP hM hC => ?_)
  have h1 := c_impl_standard m d (m - 1) (by omega) hm2 (by omega) (by omega) (by omega) (by omega)
  rw [show intL [m - 1] = [T.int .i64 (m - 1)] from rfl] at h1
  have h2 := c_impl_variables m d (by omega) (by omega)
  have hXp : Pl m (d + 1) (tab2 (d + 1) (axX (varL d) (d + 1))) := Pl.tab2 (by omega) fun i j _ => by
    unfold axX
    split
    · exact at_bound (varL_facts hm d).2 (by omega) i
    · omega
  have hYp : Pl m (d + 1) (tab2 (d + 1) (axY (varL d) (d + 1))) := Pl.tab2 (by omega) fun i j _ => by
    unfold axY
    split
    · exact at_bound (varL_facts hm d).2 (by omega) j
    · omega
  have h3 := c_impl_Plane_plus m (tab2 (d + 1) (axX (varL d) (d + 1))) (tab2 (d + 1) (axY (varL d) (d + 1))) (d + 1) (by omega) hm2 hXp hYp (by omega) (by omega)
  have h4 := c_impl_Plane_times m (tab2 (d + 1) (axX (varL d) (d + 1))) (tab2 (d + 1) (axY (varL d) (d + 1))) (d + 1) (by omega) hm2 hXp hYp (by omega) (by omega)
  have hPp := pmul_pl (show 0 < m by omega) (d + 1) (pc (tab2 (d + 1) (axX (varL d) (d + 1)))) (pc (tab2 (d + 1) (axY (varL d) (d + 1))))
  have h5 := c_impl_Plane_scaled m (pmul m (d + 1) (pc (tab2 (d + 1) (axX (varL d) (d + 1)))) (pc (tab2 (d + 1) (axY (varL d) (d + 1))))) (m - 1) (d + 1) (by omega) hm2 hPp (by omega) (by omega)
  have h6 := c_impl_Plane_plus m _ _ (d + 1) (by omega) hm2 (Pl.tab2 (n := d + 1) (f := fun u v => (pc (tab2 (d + 1) (axX (varL d) (d + 1))) u v + pc (tab2 (d + 1) (axY (varL d) (d + 1))) u v) % m) (show 0 < m by omega) fun _ _ _ => emod_b _ m (by omega)) (Pl.tab2 (n := d + 1) (f := fun u v => (m - 1) % m * pc (pmul m (d + 1) (pc (tab2 (d + 1) (axX (varL d) (d + 1)))) (pc (tab2 (d + 1) (axY (varL d) (d + 1))))) u v % m % m) (show 0 < m by omega) fun _ _ _ => emod_b _ m (by omega)) (by omega) (by omega)
  rw [mul_parts hm (by omega)] at h6
  (repeat (first | ((with_reducible refine rgn_cons rfl (fun K hK => ?_)); simp only [go_sem, seval, ↓reduceIte, decide_true, decide_false, show ((0 : Int) != 0) = false from rfl]; (first | refine hK _ _ _ (by simp only [go_sem, Nat.reduceEqDiff, ↓reduceIte]; rfl) ?_ | refine ⟨_, h1, hK _ _ _ (by simp only [go_sem, Nat.reduceEqDiff, ↓reduceIte]; rfl) ?_⟩ | refine ⟨_, h2, hK _ _ _ (by simp only [go_sem, Nat.reduceEqDiff, ↓reduceIte]; rfl) ?_⟩ | refine ⟨_, h3, hK _ _ _ (by simp only [go_sem, Nat.reduceEqDiff, ↓reduceIte]; rfl) ?_⟩ | refine ⟨_, h4, hK _ _ _ (by simp only [go_sem, Nat.reduceEqDiff, ↓reduceIte]; rfl) ?_⟩ | refine ⟨_, h5, hK _ _ _ (by simp only [go_sem, Nat.reduceEqDiff, ↓reduceIte]; rfl) ?_⟩ | refine ⟨_, h6, hK _ _ _ (by simp only [go_sem, Nat.reduceEqDiff, ↓reduceIte]; rfl) ?_⟩); clear hK; clear K) | (with_reducible first | refine rgn_nil (by first | trivial | kernel_rfl) ?_ | refine AWP.seq ?_ | refine tX hC hP (by kernel_rfl) ?_ | refine aX hC hM hP (by kernel_rfl) ?_ | refine AWP.skip ?_ | refine AWP.label ?_ | refine AWP.exit ?_ | refine AWP.block ?_ | refine cTa ?_ | refine cFa ?_) | simp only [qS, Nat.reduceEqDiff, ↓reduceIte]))
  (refine AWP.ret ?_; refine retOk2 (by simp only [go_sem, seval, ↓reduceIte, decide_true, decide_false]; rfl) (by simp only [go_sem, seval, ↓reduceIte, decide_true, decide_false]; rfl) (by simp) ?_)
  rfl
end Go.Proofs.Ytahnnangdepkbaa
