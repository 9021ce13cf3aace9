/-
  The parts of the law of multiplicative curves.
-/
import Derived.Test.YtahnnangdepkbaaJn
import Derived.Test.YtahnnangdepkbaaRo
import Derived.Test.YtahnnangdepkbaaLr
import Derived.Test.YtahnnangdepkbaaLx
import Derived.Test.YtahnnangdepkbaaLf
namespace Go.Proofs.Ytahnnangdepkbaa
open Go.RowKit
set_option linter.unusedSimpArgs false
set_option linter.unusedVariables false
set_option linter.unusedSectionVars false
set_option maxRecDepth 20000
-- The parts of the law of multiplicative curves.
/-- Numbers drawn one behind the other. -/
def n5S (l : List Int) (M : Int) (s : Int × Int) : Nat → Int × Int
  | 0 => s
  | i + 1 => nextS l (n5S l M s i) M
def n5L (l : List Int) (M : Int) (s : Int × Int) : Nat → List Int
  | 0 => []
  | i + 1 => n5L l M s i ++ [nextX l (n5S l M s i) M]
theorem n5L_length (l : List Int) (M : Int) (s : Int × Int) : ∀ n, (n5L l M s n).length = n
  | 0 => rfl
  | n + 1 => by rw [n5L, List.length_append, n5L_length l M s n]; rfl
theorem n5S_ok {l : List Int} {M : Int} {s : Int × Int} (hS : Sok l s) : ∀ n, Sok l (n5S l M s n)
  | 0 => hS
  | n + 1 => nextS_ok (n5S_ok hS n) M
theorem n5L_b {l : List Int} (hB : Byt l) {M : Int} (h1 : 1 ≤ M) (s : Int × Int) : ∀ n, ∀ x ∈ n5L l M s n, 0 ≤ x ∧ x < M
  | 0, x, h => by simp [n5L] at h
  | n + 1, x, h => by
    rw [n5L, List.mem_append] at h
    rcases h with h | h
    · exact n5L_b hB h1 s n x h
    · simp only [List.mem_cons, List.not_mem_nil, or_false] at h
      have := nextX_bound hB (n5S l M s n) M
      rw [h]
      exact ⟨this.1, this.2.1 h1⟩
set_option maxHeartbeats 1000000 in
theorem c_laws_below5 (a : Option Addr) (c : Nat) (l : List Int) (hB : Byt l) (s : Int × Int) (hS : Sok l s) (n : Nat) (m : Int) (hn : n ≤ 1000) : AFn Try.prog (5000000 + 8) [.str (.src a c l), .box 43 (.agg [.str (.raw a l.length c), .int .i64 s.1, .int .u64 s.2]), .int .i64 n, .int .i64 m] (.tup [.sl true 2 (intL (n5L l m s n)), .box 43 (.agg [.str (.raw a l.length c), .int .i64 (n5S l m s n).1, .int .u64 (n5S l m s n).2])]) := by
  refine AFg.of' ttOk Try.func8 Try.ntmps8 (by rw [Try.results8]) (by rfl) (by rfl) (by simp) (by decide) (by decide) srcScalar srcScalar rfl (by simp only [go_sem, Nat.reduceAdd, ↓reduceIte]; rfl) mixed (fun C hP hM hC => ?_)
  (repeat (first | ((with_reducible refine rgn_cons rfl (fun K hK => ?_)); simp only [go_sem, seval, ↓reduceIte, decide_true, decide_false]; (refine hK _ _ _ (by simp only [go_sem, Nat.reduceEqDiff, ↓reduceIte]; rfl) ?_); clear hK; clear K) | (with_reducible first | refine rgn_nil (by first | trivial | kernel_rfl) ?_ | refine AWP.seq ?_ | refine tX hC hP (by kernel_rfl) ?_ | refine aX hC hM hP (by kernel_rfl) ?_ | refine AWP.skip ?_ | refine AWP.label ?_ | refine AWP.exit ?_ | refine AWP.block ?_ | refine cTa ?_ | refine cFa ?_) | simp only [qS, Nat.reduceEqDiff, ↓reduceIte]))
  refine AWP.loop (fun w : Nat × Nat => [(8, ⟨0, .val (.int .i64 w.1)⟩), (7, ⟨w.2, .own (.sl true 2 (intL (n5L l m s w.1)))⟩), (1, ⟨0, .val (.int .i64 n)⟩), (2, ⟨0, .val (.int .i64 m)⟩), (3000000, ⟨0, .val (.str (.src a c l))⟩), (0, ⟨0, .val (.addr 3000001 0 [] 0 [0])⟩), (3000001, ⟨0, .own (.box 43 (.agg [.str (.raw a l.length c), .int .i64 (n5S l m s w.1).1, .int .u64 (n5S l m s w.1).2]))⟩)]) (fun w => w.1 ≤ n) (fun w => n - w.1) (0, 1) (Nat.zero_le _) (fun i => rfl) ?_ (fun w hw => ?_)
  · simp [Sub, lk, n5L, n5S, intL]
  · obtain ⟨i, v⟩ := w
    simp only at hw ⊢
    by_cases hi : i < n
    · have h1 := n5S_ok (M := m) hS i
      have hll := n5L_length l m s i
      have hsn : n5L l m s i ++ [nextX l (n5S l m s i) m] = n5L l m s (i + 1) := rfl
      (repeat (first | ((with_reducible refine rgn_cons rfl (fun K hK => ?_)); simp only [go_sem, seval, ↓reduceIte, decide_true, decide_false, show (i : Int) < (n : Int) by omega, decide_true, intL_snoc, hll, hsn, show i + 1 ≤ 1099511627776 by omega, show (i + 1) * 8 ≤ 140737488355328 by omega, wid ((i : Int) + 1) (by omega) (by omega)]; (first | refine hK _ _ _ (by simp only [go_sem, Nat.reduceEqDiff, ↓reduceIte]; rfl) ?_ | refine ⟨_, c_laws_dice_below a c l hB (n5S l m s i) h1 m, hK _ _ _ (by simp only [go_sem, Nat.reduceEqDiff, ↓reduceIte]; rfl) ?_⟩); clear hK; clear K) | (with_reducible first | refine rgn_nil (by first | trivial | kernel_rfl) ?_ | refine AWP.seq ?_ | refine tX hC hP (by kernel_rfl) ?_ | refine aX hC hM hP (by kernel_rfl) ?_ | refine AWP.skip ?_ | refine AWP.label ?_ | refine AWP.exit ?_ | refine AWP.block ?_ | refine cTa ?_ | refine cFa ?_) | simp only [qS, Nat.reduceEqDiff, ↓reduceIte]))
      exact ⟨(i + 1, v + 1), by simp only; omega, by simp only; omega, by simp [Sub, lk, n5S]⟩
    · have e : i = n := by omega
      subst e
      (repeat (first | ((with_reducible refine rgn_cons rfl (fun K hK => ?_)); simp only [go_sem, seval, ↓reduceIte, decide_true, decide_false, show ¬ (i : Int) < (i : Int) by omega, decide_false]; (refine hK _ _ _ (by simp only [go_sem, Nat.reduceEqDiff, ↓reduceIte]; rfl) ?_); clear hK; clear K) | (with_reducible first | refine rgn_nil (by first | trivial | kernel_rfl) ?_ | refine AWP.seq ?_ | refine tX hC hP (by kernel_rfl) ?_ | refine aX hC hM hP (by kernel_rfl) ?_ | refine AWP.skip ?_ | refine AWP.label ?_ | refine AWP.exit ?_ | refine AWP.block ?_ | refine cTa ?_ | refine cFa ?_) | simp only [qS, Nat.reduceEqDiff, ↓reduceIte]))
      (refine AWP.ret ?_; refine retG1 (by simp only [go_sem, seval, ↓reduceIte, decide_true, decide_false]; rfl) (by simp) (by rfl) ?_)
      rfl
theorem mul_sm {m : Int} (hm : 1 < m) {d : Nat} (hd : d ≤ 10) : Sm (tab2 (d + 1) (mulT m)) := ⟨by rw [tab2_length]; omega, fun i => by
  by_cases hi : i < d + 1
  · rw [(mul_pl hm (d + 1)).row i hi]; omega
  · rw [List.getD_eq_getElem?_getD, List.getElem?_eq_none (by rw [tab2_length]; omega)]; simp⟩
set_option maxHeartbeats 1000000 in
theorem c_impl_operated (m : Int) (d n : Nat) (a : List Int) (hm : 1 < m) (hm2 : m ≤ 10000) (hd : 2 ≤ d) (hd2 : d ≤ 10) (ha : MCv m d a) (hn : 2 ≤ n) (hn2 : n ≤ 5) (hnd : n ≤ d) : AFn Try.prog 24 [.agg [.int .i64 m, .sl false 27 (rowsF (tab2 (d + 1) (mulT m)))], .agg [.int .i64 m, .sl false 2 (intL a)], .int .i64 n] (.int .i64 0) := by
  refine AFn.of' ttOk (by decide) Try.func24 Try.ntmps24 (by rw [Try.results24]) (by rfl) (by rfl) (by simp) (by decide) (by simp only [go_sem, Nat.reduceAdd, ↓reduceIte]; rfl) mixed (fun C hP hM hC => ?_)
  have h1 := ha.len
  have hLl : (tab2 (d + 1) (mulT m)).length = d + 1 := tab2_length _ _
  have hCu := c_impl_curved_one m m (tab2 (d + 1) (mulT m)) a (mul_sm hm hd2) (by omega)
  rw [cuC, if_pos (mul_law hm hm2 hd hd2), if_pos (ha.ser hm hm2 (by omega) hd2), if_pos (ha.cu hLl)] at hCu
  have hIn := c_impl_in (n : Int) 2 5
  rw [decide_eq_true (show (2 : Int) ≤ n by omega), decide_eq_true (show (n : Int) ≤ 5 by omega)] at hIn
  have hDg := c_impl_Plane_degree m (tab2 (d + 1) (mulT m)) (by omega)
  rw [hLl, show ((d + 1 : Nat) : Int) - 1 = (d : Int) by omega] at hDg
  (repeat (first | ((with_reducible refine rgn_cons rfl (fun K hK => ?_)); simp only [go_sem, seval, ↓reduceIte, decide_true, decide_false, show ((0 : Int) != 0) = false from rfl, Bool.and_self, Bool.not_true, show ¬ (d : Int) < (n : Int) by omega, show ¬ (n : Int) > (d : Int) by omega, decide_false]; (first | refine hK _ _ _ (by simp only [go_sem, Nat.reduceEqDiff, ↓reduceIte]; rfl) ?_ | refine ⟨_, hCu, hK _ _ _ (by simp only [go_sem, Nat.reduceEqDiff, ↓reduceIte]; rfl) ?_⟩ | refine ⟨_, hIn, hK _ _ _ (by simp only [go_sem, Nat.reduceEqDiff, ↓reduceIte]; rfl) ?_⟩ | refine ⟨_, hDg, hK _ _ _ (by simp only [go_sem, Nat.reduceEqDiff, ↓reduceIte]; rfl) ?_⟩); clear hK; clear K) | (with_reducible first | refine rgn_nil (by first | trivial | kernel_rfl) ?_ | refine AWP.seq ?_ | refine tX hC hP (by kernel_rfl) ?_ | refine aX hC hM hP (by kernel_rfl) ?_ | refine AWP.skip ?_ | refine AWP.label ?_ | refine AWP.exit ?_ | refine AWP.block ?_ | refine cTa ?_ | refine cFa ?_) | simp only [qS, Nat.reduceEqDiff, ↓reduceIte]))
  (refine AWP.ret ?_; refine retOk1 (by simp only [go_sem, seval, ↓reduceIte, decide_true, decide_false]; rfl) ?_)
  rfl
set_option maxHeartbeats 1000000 in
theorem c_impl_FrobeniusUnder (m : Int) (d n : Nat) (a : List Int) (hm : 1 < m) (hm2 : m ≤ 10000) (hd : 2 ≤ d) (hd2 : d ≤ 10) (ha : MCv m d a) (hn : 2 ≤ n) (hn2 : n ≤ 5) (hnd : n ≤ d) : AFn Try.prog 11 [.agg [.int .i64 m, .sl false 27 (rowsF (tab2 (d + 1) (mulT m)))], .agg [.int .i64 m, .sl false 2 (intL a)], .int .i64 n] (.tup [.agg [.int .i64 m, .sl true 2 (intL (frW m n d (pc (tab2 (d + 1) (mulT m))) a))], .int .i64 0]) := by
  refine AFn.of' ttOk (by decide) Try.func11 Try.ntmps11 (by rw [Try.results11]) (by rfl) (by rfl) (by simp) (by decide) (by simp only [go_sem, Nat.reduceAdd, ↓reduceIte]; rfl) mixed (fun C hP hM hC => ?_)
  have h1 := c_impl_operated m d n a hm hm2 hd hd2 ha hn hn2 hnd
  have h2 := c_impl_Plane_frobenius m (tab2 (d + 1) (mulT m)) a n d hm hm2 (mul_pl hm (d + 1)) ha.len ha.num hn hn2 (by omega)
  (repeat (first | ((with_reducible refine rgn_cons rfl (fun K hK => ?_)); simp only [go_sem, seval, ↓reduceIte, decide_true, decide_false, show ((0 : Int) != 0) = false from rfl]; (first | refine hK _ _ _ (by simp only [go_sem, Nat.reduceEqDiff, ↓reduceIte]; rfl) ?_ | refine ⟨_, h1, hK _ _ _ (by simp only [go_sem, Nat.reduceEqDiff, ↓reduceIte]; rfl) ?_⟩ | refine ⟨_, h2, hK _ _ _ (by simp only [go_sem, Nat.reduceEqDiff, ↓reduceIte]; rfl) ?_⟩); clear hK; clear K) | (with_reducible first | refine rgn_nil (by first | trivial | kernel_rfl) ?_ | refine AWP.seq ?_ | refine tX hC hP (by kernel_rfl) ?_ | refine aX hC hM hP (by kernel_rfl) ?_ | refine AWP.skip ?_ | refine AWP.label ?_ | refine AWP.exit ?_ | refine AWP.block ?_ | refine cTa ?_ | refine cFa ?_) | simp only [qS, Nat.reduceEqDiff, ↓reduceIte]))
  (refine AWP.ret ?_; refine retOk2 (by simp only [go_sem, seval, ↓reduceIte, decide_true, decide_false]; rfl) (by simp only [go_sem, seval, ↓reduceIte, decide_true, decide_false]; rfl) (by simp) ?_)
  rfl
set_option maxHeartbeats 1000000 in
theorem c_impl_curveCode (m : Int) (d : Nat) (a : List Int) (hm : 1 < m) (hm2 : m ≤ 10000) (hd : 2 ≤ d) (hd2 : d ≤ 10) (ha : MCv m d a) : AFn Try.prog 36 [.agg [.int .i64 m, .sl false 2 (intL a)]] (.int .i64 0) := by
  refine AFn.of' ttOk (by decide) Try.func36 Try.ntmps36 (by rw [Try.results36]) (by rfl) (by rfl) (by simp) (by decide) (by simp only [go_sem, Nat.reduceAdd, ↓reduceIte]; rfl) mixed (fun C hP hM hC => ?_)
  have h1 := ha.len
  have hS := c_impl_IsSeries m a (by omega)
  rw [ha.ser hm hm2 (by omega) hd2] at hS
  (repeat (first | ((with_reducible refine rgn_cons rfl (fun K hK => ?_)); simp only [go_sem, seval, ↓reduceIte, decide_true, decide_false, Int.le_refl, Int.toNat_zero, h1, show (0 : Int) < ((d + 1 : Nat) : Int) by omega, intL_getD a 0 (by omega), show a.getD 0 0 = 0 from ha.at0, show ((0 : Int) != 0) = false from rfl]; (first | refine hK _ _ _ (by simp only [go_sem, Nat.reduceEqDiff, ↓reduceIte]; rfl) ?_ | refine ⟨_, hS, hK _ _ _ (by simp only [go_sem, Nat.reduceEqDiff, ↓reduceIte]; rfl) ?_⟩); clear hK; clear K) | (with_reducible first | refine rgn_nil (by first | trivial | kernel_rfl) ?_ | refine AWP.seq ?_ | refine tX hC hP (by kernel_rfl) ?_ | refine aX hC hM hP (by kernel_rfl) ?_ | refine AWP.skip ?_ | refine AWP.label ?_ | refine AWP.exit ?_ | refine AWP.block ?_ | refine cTa ?_ | refine cFa ?_) | simp only [qS, Nat.reduceEqDiff, ↓reduceIte]))
  (refine AWP.ret ?_; refine retOk1 (by simp only [go_sem, seval, ↓reduceIte, decide_true, decide_false]; rfl) ?_)
  rfl
set_option maxHeartbeats 1000000 in
theorem c_impl_VerschiebungOf (m : Int) (d n : Nat) (a : List Int) (hm : 1 < m) (hm2 : m ≤ 10000) (hd : 2 ≤ d) (hd2 : d ≤ 10) (ha : MCv m d a) (hn : 2 ≤ n) (hn2 : n ≤ 5) : AFn Try.prog 13 [.agg [.int .i64 m, .sl false 2 (intL a)], .int .i64 n] (.tup [.agg [.int .i64 m, .sl true 2 (intL (spreadL a n d))], .int .i64 0]) := by
  refine AFn.of' ttOk (by decide) Try.func13 Try.ntmps13 (by rw [Try.results13]) (by rfl) (by rfl) (by simp) (by decide) (by simp only [go_sem, Nat.reduceAdd, ↓reduceIte]; rfl) mixed (fun C hP hM hC => ?_)
  have h1 := c_impl_curveCode m d a hm hm2 hd hd2 ha
  have hIn := c_impl_in (n : Int) 1 100
  rw [decide_eq_true (show (1 : Int) ≤ n by omega), decide_eq_true (show (n : Int) ≤ 100 by omega)] at hIn
  have h2 := c_impl_Series_spread m a n d (by omega) (by omega) ha.len (by omega)
  (repeat (first | ((with_reducible refine rgn_cons rfl (fun K hK => ?_)); simp only [go_sem, seval, ↓reduceIte, decide_true, decide_false, show ((0 : Int) != 0) = false from rfl, Bool.and_self, Bool.not_true]; (first | refine hK _ _ _ (by simp only [go_sem, Nat.reduceEqDiff, ↓reduceIte]; rfl) ?_ | refine ⟨_, h1, hK _ _ _ (by simp only [go_sem, Nat.reduceEqDiff, ↓reduceIte]; rfl) ?_⟩ | refine ⟨_, hIn, hK _ _ _ (by simp only [go_sem, Nat.reduceEqDiff, ↓reduceIte]; rfl) ?_⟩ | refine ⟨_, h2, hK _ _ _ (by simp only [go_sem, Nat.reduceEqDiff, ↓reduceIte]; rfl) ?_⟩); clear hK; clear K) | (with_reducible first | refine rgn_nil (by first | trivial | kernel_rfl) ?_ | refine AWP.seq ?_ | refine tX hC hP (by kernel_rfl) ?_ | refine aX hC hM hP (by kernel_rfl) ?_ | refine AWP.skip ?_ | refine AWP.label ?_ | refine AWP.exit ?_ | refine AWP.block ?_ | refine cTa ?_ | refine cFa ?_) | simp only [qS, Nat.reduceEqDiff, ↓reduceIte]))
  (refine AWP.ret ?_; refine retOk2 (by simp only [go_sem, seval, ↓reduceIte, decide_true, decide_false]; rfl) (by simp only [go_sem, seval, ↓reduceIte, decide_true, decide_false]; rfl) (by simp) ?_)
  rfl
theorem tM_zero {m : Int} {d i j : Nat} (h : 2 ≤ i ∨ 2 ≤ j) : pc (tab2 (d + 1) (mulT m)) i j = 0 := by
  by_cases hij : i + j < d + 1
  · rw [pc_tab2 hij, mulT, if_neg (by omega), if_neg (by omega)]
  · exact pc_out (by omega)
theorem putR_skip {m : Int} {t : Nat → Nat → Int} {P Q : Nat → List Int} {d i j0 : Nat} {acc : List Int} (h : ∀ j, j0 ≤ j → t i j = 0) : ∀ j, j0 ≤ j → putR m t P Q d i acc j = putR m t P Q d i acc j0
  | 0, hj => by rw [show j0 = 0 by omega]
  | j + 1, hj => by
    by_cases e : j0 = j + 1
    · rw [e]
    · rw [putR, if_pos (h j (by omega)), putR_skip h j (by omega)]
theorem putO_skip {m : Int} {t : Nat → Nat → Int} {P Q : Nat → List Int} {d i0 : Nat} (h : ∀ i j, i0 ≤ i → t i j = 0) : ∀ i, i0 ≤ i → putO m t P Q d i = putO m t P Q d i0
  | 0, hi => by rw [show i0 = 0 by omega]
  | i + 1, hi => by
    by_cases e : i0 = i + 1
    · rw [e]
    · rw [putO, putR_skip (j0 := 0) (fun j _ => h i j (by omega)) _ (Nat.zero_le _), putR, putO_skip h i (by omega)]
theorem li_addL {R : Type} {K : Rg R} {m : Int} (hm : K.c m = K.c 0) (a b : List Int) {d k : Nat} (hk : k ≤ d) : K.c (at' (addL m a b d) k) = K.a (K.c (at' a k)) (K.c (at' b k)) := by
  rw [addL, at_tab (by omega), K.c_mod hm, K.cA]
theorem li_scL {R : Type} {K : Rg R} {m : Int} (hm : K.c m = K.c 0) (x : Int) (a : List Int) {d k : Nat} (hk : k ≤ d) : K.c (at' (scL m x a d) k) = K.m (K.c x) (K.c (at' a k)) := by
  rw [scL, at_tab (by omega), K.c_mod hm, K.cM]
theorem li_times {R : Type} {K : Rg R} {m : Int} (hm : K.c m = K.c 0) (a b : List Int) (d : Nat) : PS.eqd d (PS.li K (at' (timesL m a b d))) (PS.li K (at' a) * PS.li K (at' b)) := fun k hk => by
  rw [← PS.li_mul]
  exact K.c_congr hm (eqm_times m a b d k hk)
theorem li_oneL {R : Type} {K : Rg R} (d : Nat) : PS.eqd d (PS.li K (at' (oneL d))) 1 := fun k hk => by
  rw [← PS.li_one]
  show K.c _ = K.c _
  rw [at_oneL d k hk]
/-- 1 - the sum is the product of 1 - the summands. -/
theorem li_put {R : Type} {K : Rg R} {m : Int} (h1 : 1 < m) (hm : K.c m = K.c 0) {d : Nat} (hd : 2 ≤ d) (a b : List Int) :
    PS.eqd d ((1 : PS K) - PS.li K (at' (putL m (pc (tab2 (d + 1) (mulT m))) a b d))) (((1 : PS K) - PS.li K (at' a)) * ((1 : PS K) - PS.li K (at' b))) := fun k hk => by
  have e2 : ((1 : PS K) - PS.li K (at' a)) * ((1 : PS K) - PS.li K (at' b)) = (1 : PS K) - (PS.li K (at' b) + (PS.li K (at' a) + -1 * (PS.li K (at' a) * PS.li K (at' b)))) := PS.two1 _ _
  rw [e2, PS.sub_at, PS.sub_at]
  congr 2
  have t00 : pc (tab2 (d + 1) (mulT m)) 0 0 = 0 := by rw [pc_tab2 (by omega), mulT, if_neg (by omega), if_neg (by omega)]
  have t01 : pc (tab2 (d + 1) (mulT m)) 0 1 = 1 := by rw [pc_tab2 (by omega), mulT, if_pos (by omega)]
  have t10 : pc (tab2 (d + 1) (mulT m)) 1 0 = 1 := by rw [pc_tab2 (by omega), mulT, if_pos (by omega)]
  have t11 : pc (tab2 (d + 1) (mulT m)) 1 1 = m - 1 := by rw [pc_tab2 (by omega), mulT, if_neg (by omega), if_pos ⟨rfl, rfl⟩]
  have a0 := li_oneL (K := K) d
  have p1 : ∀ x : List Int, PS.eqd d (PS.li K (at' (pwS m x d 1))) (PS.li K (at' x)) := fun x i hi =>
    (li_times hm (oneL d) x d i hi).trans (((a0.mul (PS.eqd.rfl' (f := PS.li K (at' x)))) i hi).trans (congrFun (PS.one_mul (PS.li K (at' x))) i))
  have q01 : K.c (at' (timesL m (pwS m a d 0) (pwS m b d 1) d) k) = PS.li K (at' b) k := by
    have := li_times hm (pwS m a d 0) (pwS m b d 1) d k hk
    rw [show PS.li K (at' (pwS m a d 0)) = PS.li K (at' (oneL d)) from rfl, (a0.mul (p1 b)) k hk] at this
    exact this.trans (congrFun (PS.one_mul (PS.li K (at' b))) k)
  have q10 : K.c (at' (timesL m (pwS m a d 1) (pwS m b d 0) d) k) = PS.li K (at' a) k := by
    have := li_times hm (pwS m a d 1) (pwS m b d 0) d k hk
    rw [show PS.li K (at' (pwS m b d 0)) = PS.li K (at' (oneL d)) from rfl, ((p1 a).mul a0) k hk] at this
    exact this.trans (congrFun (PS.mul_one (PS.li K (at' a))) k)
  have q11 : K.c (at' (timesL m (pwS m a d 1) (pwS m b d 1) d) k) = (PS.li K (at' a) * PS.li K (at' b)) k :=
    (li_times hm (pwS m a d 1) (pwS m b d 1) d k hk).trans (((p1 a).mul (p1 b)) k hk)
  show K.c (at' (putL m (pc (tab2 (d + 1) (mulT m))) a b d) k) = _
  rw [putL, putO_skip (i0 := 2) (fun i j hi => tM_zero (.inl hi)) (d + 1) (by omega), putO, putO, putR_skip (j0 := 2) (fun j hj => tM_zero (.inr hj)) (d + 1 - 1) (by omega), putR_skip (j0 := 2) (fun j hj => tM_zero (.inr hj)) (d + 1 - 0) (by omega)]
  rw [putR, putR, putR, putR, putR, putR, t00, t01, t10, t11, if_neg (by omega), if_neg (by omega), if_neg (by omega), if_pos rfl]
  rw [li_addL hm _ _ hk, li_addL hm _ _ hk, li_addL hm _ _ hk, li_scL hm _ _ hk, li_scL hm _ _ hk, li_scL hm _ _ hk, q01, q10, q11]
  rw [show K.c (at' (putO m (pc (tab2 (d + 1) (mulT m))) (pwS m a d) (pwS m b d) d 0) k) = K.c 0 by rw [putO, at_tab (by omega)], K.aZl, K.mIl, K.mIl]
  have em : K.c (m - 1) = K.c (-1) := K.c_congr hm (by rw [show m - 1 = -1 + m * 1 by omega, Int.add_mul_emod_self_left])
  have e3 : (-1 * (PS.li K (at' a) * PS.li K (at' b))) k = K.m (K.c (-1)) ((PS.li K (at' a) * PS.li K (at' b)) k) := by
    rw [← mo_neg, PS.mo_mul, if_pos (Nat.zero_le _), Nat.sub_zero]
  rw [em]
  show _ = K.a (PS.li K (at' b) k) (K.a (PS.li K (at' a) k) ((-1 * (PS.li K (at' a) * PS.li K (at' b))) k))
  rw [e3, K.aA]
/-- u is 1 - a. -/
structure Opp (m : Int) (d : Nat) (a u : List Int) : Prop where
  a0 : at' a 0 = 0
  u0 : at' u 0 = 1
  au : ∀ i, 1 ≤ i → i ≤ d → (at' a i + at' u i) % m = 0
theorem Opp.li {R : Type} {K : Rg R} {m : Int} {d : Nat} {a u : List Int} (h : Opp m d a u) (hm : K.c m = K.c 0) : PS.eqd d ((1 : PS K) - PS.li K (at' a)) (PS.li K (at' u)) := fun s hs => by
  rw [PS.sub_at, PS.one_at]
  show K.a (if s = 0 then K.c 1 else K.c 0) (K.m (K.c (-1)) (K.c (at' a s))) = K.c (at' u s)
  rw [← K.cM]
  by_cases h0 : s = 0
  · subst h0
    rw [if_pos rfl, ← K.cA, h.a0, h.u0]; rfl
  · rw [if_neg h0, ← K.cA]
    refine K.c_congr hm ?_
    have := h.au s (by omega) hs
    apply Int.emod_eq_emod_iff_emod_sub_eq_zero.2
    have e : 0 + -1 * at' a s - at' u s = -(at' a s + at' u s) := by omega
    rw [e]
    exact Int.emod_eq_zero_of_dvd (Int.dvd_neg.2 (Int.dvd_of_emod_eq_zero this))
theorem quo_c {m x y : Int} (h : (rgZ.quo m).c x = (rgZ.quo m).c y) : x % m = y % m := by
  obtain ⟨w, hw⟩ := Quotient.exact h
  have hw' : x = y + m * w := hw
  rw [hw', Int.add_mul_emod_self_left]
theorem sum_mul {m : Int} (h1 : 1 < m) {d : Nat} (hd : 2 ≤ d) {a b u v : List Int} (ha : Opp m d a u) (hb : Opp m d b v) {k : Nat} (hk1 : 1 ≤ k) (hk : k ≤ d) :
    (at' (putL m (pc (tab2 (d + 1) (mulT m))) a b d) k + at' (timesL m u v d) k) % m = 0 := by
  have hm := quo_zero rgZ m
  have e1 := li_put (K := rgZ.quo m) h1 hm hd a b k hk
  rw [((ha.li hm).mul (hb.li hm)) k hk, ← li_times hm u v d k hk, PS.sub_at, PS.one_at, if_neg (by omega), Rg.aZl] at e1
  have e2 : (rgZ.quo m).c (-1 * at' (putL m (pc (tab2 (d + 1) (mulT m))) a b d) k) = (rgZ.quo m).c (at' (timesL m u v d) k) := by
    rw [Rg.cM]; exact e1
  have e3 := Int.emod_eq_emod_iff_emod_sub_eq_zero.1 (quo_c e2)
  have e4 : -1 * at' (putL m (pc (tab2 (d + 1) (mulT m))) a b d) k - at' (timesL m u v d) k = -(at' (putL m (pc (tab2 (d + 1) (mulT m))) a b d) k + at' (timesL m u v d) k) := by omega
  rw [e4] at e3
  exact Int.emod_eq_zero_of_dvd (Int.dvd_neg.1 (Int.dvd_of_emod_eq_zero e3))
theorem ver_mul {m : Int} {d n : Nat} (hn : 0 < n) {a u : List Int} (h : Opp m d a u) {k : Nat} (hk1 : 1 ≤ k) (hk : k ≤ d) : (at' (spreadL a n d) k + at' (spreadL u n d) k) % m = 0 := by
  rw [spreadL, spreadL, at_tab (by omega), at_tab (by omega)]
  split
  · rename_i h0
    obtain ⟨q, rfl⟩ := Nat.dvd_of_mod_eq_zero h0
    rw [Nat.mul_div_cancel_left _ hn]
    refine h.au q ?_ (Nat.le_trans (Nat.le_mul_of_pos_left q hn) hk)
    rcases Nat.eq_zero_or_pos q with e | e
    · subst e; omega
    · exact e
  · exact Int.zero_emod m
/-- The program's Frobenius looks at the law's table only. -/
theorem suJ_congr {m : Int} {k : Nat} {r : List Int} {n : Nat} {c c' : Nat → Int} {P : List (List Int)} {Q : Nat → List (List Int)} {S : Nat → List Int} : ∀ j, (∀ i, i < j → c i = c' i) → suJ m k r n c P Q S j = suJ m k r n c' P Q S j
  | 0, _ => rfl
  | j + 1, h => by
    rw [suJ, suJ, suJ_congr j (fun i hi => h i (by omega)), h j (by omega)]
theorem suI_congr {m : Int} {k : Nat} {r : List Int} {n : Nat} {c c' : Nat → Nat → Int} {P Q : Nat → List (List Int)} (h : ∀ i j, i + j < n → c i j = c' i j) : ∀ i, i ≤ n → suI m k r n c P Q i = suI m k r n c' P Q i
  | 0, _ => rfl
  | i + 1, hi => by
    rw [suI, suI, suI_congr h i (by omega), suJ_congr (n - i) (fun j hj => h i j (by omega))]
theorem toN_congr {m : Int} {k : Nat} {r a : List Int} {n : Nat} {c c' : Nat → Nat → Int} (h : ∀ i j, i + j < n → c i j = c' i j) : ∀ j, toN m k r a n c j = toN m k r a n c' j
  | 0 => rfl
  | j + 1 => by rw [toN, toN, toN_congr h j, suW, suW, suI_congr h n (Nat.le_refl _)]
theorem frW_mul (m : Int) (n d : Nat) (a : List Int) : frW m n d (pc (tab2 (d + 1) (mulT m))) a = frW m n d (mulT m) a := by
  rw [frW, frW, toN_congr (c' := mulT m) fun i j h => pc_tab2 h]
end Go.Proofs.Ytahnnangdepkbaa
