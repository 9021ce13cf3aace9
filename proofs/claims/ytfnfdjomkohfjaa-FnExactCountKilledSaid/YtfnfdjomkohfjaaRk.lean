/-
  Sizes, tests of points, multiples that are zero.
-/
import Derived.Test.YtfnfdjomkohfjaaRb
namespace Go.Proofs.Ytfnfdjomkohfjaa
open Go.RowKit
set_option linter.unusedSimpArgs false
set_option linter.unusedVariables false
set_option linter.unusedSectionVars false
set_option maxRecDepth 20000
-- Sizes, tests of points, multiples that are zero.
theorem tmodN2 (x y : Nat) : (x : Int).tmod (y : Int) = ((x % y : Nat) : Int) := by first | rfl | simp
theorem tdivN2 (x y : Nat) : (x : Int).tdiv (y : Int) = ((x / y : Nat) : Int) := by first | rfl | simp
def szM (m k most : Nat) : Nat := if m ^ k ≤ most then m ^ k else most + 1
theorem pow_mono1 {m j k : Nat} (hm : 2 ≤ m) (h : j ≤ k) : m ^ j ≤ m ^ k := Nat.pow_le_pow_right (by omega) h
set_option maxHeartbeats 1000000 in
theorem c_spec_l16Size (m k most : Nat) (hm : 2 ≤ m) (hm2 : m ≤ 10000) (hk : k ≤ 1000) (h1 : 1 ≤ most) (h2 : most ≤ 1000000000000) : AFn Try.prog 82 [.int .i64 m, .int .i64 k, .int .i64 most] (.int .i64 (szM m k most)) := by
  refine AFn.of' ttOk (by decide) Try.func82 Try.ntmps82 (by rw [Try.results82]) (by rfl) (by rfl) (by simp) (by decide) (by simp only [go_sem, Nat.reduceAdd, ↓reduceIte]; rfl) mixed (fun C hP hM hC => ?_)
  (repeat (first | ((with_reducible refine rgn_cons rfl (fun K hK => ?_)); simp only [go_sem, seval, ↓reduceIte, decide_true, decide_false]; (refine hK _ _ _ (by simp only [go_sem, Nat.reduceEqDiff, ↓reduceIte]; rfl) ?_); clear hK; clear K) | (with_reducible first | refine rgn_nil (by first | trivial | kernel_rfl) ?_ | refine AWP.seq ?_ | refine tX hC hP (by kernel_rfl) ?_ | refine aX hC hM hP (by kernel_rfl) ?_ | refine AWP.skip ?_ | refine AWP.label ?_ | refine AWP.exit ?_ | refine AWP.block ?_ | refine cTa ?_ | refine cFa ?_) | simp only [qS, Nat.reduceEqDiff, ↓reduceIte]))
  refine AWP.loop (fun j : Nat => [(0, ⟨0, .val (.int .i64 m)⟩), (1, ⟨0, .val (.int .i64 ((k : Int) - j))⟩), (2, ⟨0, .val (.int .i64 most)⟩), (7, ⟨0, .val (.int .i64 (m ^ j : Nat))⟩)]) (fun j => j ≤ k ∧ m ^ j ≤ most) (fun j => k - j) 0 ⟨Nat.zero_le _, by rw [Nat.pow_zero]; exact h1⟩ (fun i => rfl) ?_ (fun j hj => ?_)
  · simp [Sub, lk]
  · by_cases hlt : j < k
    · have hs : m ^ j * m = m ^ (j + 1) := (Nat.pow_succ ..).symm
      have hb : m ^ (j + 1) ≤ 1000000000000 * 10000 := by rw [← hs]; exact Nat.mul_le_mul (by omega) hm2
      by_cases hq : m ^ (j + 1) ≤ most
      · (repeat (first | ((with_reducible refine rgn_cons rfl (fun K hK => ?_)); simp only [go_sem, seval, ↓reduceIte, decide_true, decide_false, show (0 : Int) < (k : Int) - (j : Int) by omega, decide_true, ← Int.natCast_mul, hs, wid ((m ^ (j + 1) : Nat) : Int) (by omega) (by omega), show ¬ ((m ^ (j + 1) : Nat) : Int) > (most : Int) by omega, decide_false, wid ((k : Int) - (j : Int) - 1) (by omega) (by omega)]; (refine hK _ _ _ (by simp only [go_sem, Nat.reduceEqDiff, ↓reduceIte]; rfl) ?_); clear hK; clear K) | (with_reducible first | refine rgn_nil (by first | trivial | kernel_rfl) ?_ | refine AWP.seq ?_ | refine tX hC hP (by kernel_rfl) ?_ | refine aX hC hM hP (by kernel_rfl) ?_ | refine AWP.skip ?_ | refine AWP.label ?_ | refine AWP.exit ?_ | refine AWP.block ?_ | refine cTa ?_ | refine cFa ?_) | simp only [qS, Nat.reduceEqDiff, ↓reduceIte]))
        exact ⟨j + 1, ⟨hlt, hq⟩, by omega, by simp [Sub, lk]; omega⟩
      · have hE : szM m k most = most + 1 := if_neg (fun h => hq (Nat.le_trans (pow_mono1 hm hlt) h))
        (repeat (first | ((with_reducible refine rgn_cons rfl (fun K hK => ?_)); simp only [go_sem, seval, ↓reduceIte, decide_true, decide_false, show (0 : Int) < (k : Int) - (j : Int) by omega, decide_true, ← Int.natCast_mul, hs, wid ((m ^ (j + 1) : Nat) : Int) (by omega) (by omega), show ((m ^ (j + 1) : Nat) : Int) > (most : Int) by omega, wid ((most : Int) + 1) (by omega) (by omega)]; (refine hK _ _ _ (by simp only [go_sem, Nat.reduceEqDiff, ↓reduceIte]; rfl) ?_); clear hK; clear K) | (with_reducible first | refine rgn_nil (by first | trivial | kernel_rfl) ?_ | refine AWP.seq ?_ | refine tX hC hP (by kernel_rfl) ?_ | refine aX hC hM hP (by kernel_rfl) ?_ | refine AWP.skip ?_ | refine AWP.label ?_ | refine AWP.exit ?_ | refine AWP.block ?_ | refine cTa ?_ | refine cFa ?_) | simp only [qS, Nat.reduceEqDiff, ↓reduceIte]))
        (refine AWP.ret ?_; refine retOk1 (by simp only [go_sem, seval, ↓reduceIte, decide_true, decide_false]; rfl) ?_)
        rw [hE]; rfl
    · have e : j = k := by omega
      subst e
      have hE : szM m j most = m ^ j := if_pos hj.2
      (repeat (first | ((with_reducible refine rgn_cons rfl (fun K hK => ?_)); simp only [go_sem, seval, ↓reduceIte, decide_true, decide_false, show ¬ (0 : Int) < (j : Int) - (j : Int) by omega, decide_false]; (refine hK _ _ _ (by simp only [go_sem, Nat.reduceEqDiff, ↓reduceIte]; rfl) ?_); clear hK; clear K) | (with_reducible first | refine rgn_nil (by first | trivial | kernel_rfl) ?_ | refine AWP.seq ?_ | refine tX hC hP (by kernel_rfl) ?_ | refine aX hC hM hP (by kernel_rfl) ?_ | refine AWP.skip ?_ | refine AWP.label ?_ | refine AWP.exit ?_ | refine AWP.block ?_ | refine cTa ?_ | refine cFa ?_) | simp only [qS, Nat.reduceEqDiff, ↓reduceIte]))
      (refine AWP.ret ?_; refine retOk1 (by simp only [go_sem, seval, ↓reduceIte, decide_true, decide_false]; rfl) ?_)
      rw [hE]
set_option maxHeartbeats 1000000 in
theorem c_impl_countAtMost (m k most : Nat) (hm : 2 ≤ m) (hm2 : m ≤ 10000) (hk : k ≤ 1000) (h1 : 1 ≤ most) (h2 : most ≤ 1000000000000) : AFn Try.prog 86 [.int .i64 m, .int .i64 k, .int .i64 most] (.int .i64 (szM m k most)) := by
  refine AFn.of' ttOk (by decide) Try.func86 Try.ntmps86 (by rw [Try.results86]) (by rfl) (by rfl) (by simp) (by decide) (by simp only [go_sem, Nat.reduceAdd, ↓reduceIte]; rfl) mixed (fun C hP hM hC => ?_)
  (repeat (first | ((with_reducible refine rgn_cons rfl (fun K hK => ?_)); simp only [go_sem, seval, ↓reduceIte, decide_true, decide_false]; (refine hK _ _ _ (by simp only [go_sem, Nat.reduceEqDiff, ↓reduceIte]; rfl) ?_); clear hK; clear K) | (with_reducible first | refine rgn_nil (by first | trivial | kernel_rfl) ?_ | refine AWP.seq ?_ | refine tX hC hP (by kernel_rfl) ?_ | refine aX hC hM hP (by kernel_rfl) ?_ | refine AWP.skip ?_ | refine AWP.label ?_ | refine AWP.exit ?_ | refine AWP.block ?_ | refine cTa ?_ | refine cFa ?_) | simp only [qS, Nat.reduceEqDiff, ↓reduceIte]))
  refine AWP.loop (fun j : Nat => [(9, ⟨0, .val (.int .i64 j)⟩), (8, ⟨0, .val (.int .i64 k)⟩), (0, ⟨0, .val (.int .i64 m)⟩), (2, ⟨0, .val (.int .i64 most)⟩), (7, ⟨0, .val (.int .i64 (m ^ j : Nat))⟩)]) (fun j => j ≤ k ∧ m ^ j ≤ most) (fun j => k - j) 0 ⟨Nat.zero_le _, by rw [Nat.pow_zero]; exact h1⟩ (fun i => rfl) ?_ (fun j hj => ?_)
  · simp [Sub, lk]
  · by_cases hlt : j < k
    · have hs : m ^ j * m = m ^ (j + 1) := (Nat.pow_succ ..).symm
      have hb : m ^ (j + 1) ≤ 1000000000000 * 10000 := by rw [← hs]; exact Nat.mul_le_mul (by omega) hm2
      have hdiv : m ^ (j + 1) ≤ most ↔ m ^ j ≤ most / m := by rw [← hs]; exact (Nat.le_div_iff_mul_le (by omega)).symm
      have hdl : most / m ≤ most := Nat.div_le_self _ _
      have hdl2 : ((most / m : Nat) : Int) ≤ (most : Int) := Int.ofNat_le.2 hdl
      have hdl3 : 0 ≤ ((most / m : Nat) : Int) := Int.natCast_nonneg _
      have hwd := wid ((most / m : Nat) : Int) (by generalize ((most / m : Nat) : Int) = X at *; omega) (by generalize ((most / m : Nat) : Int) = X at *; omega)
      by_cases hq : m ^ (j + 1) ≤ most
      · (repeat (first | ((with_reducible refine rgn_cons rfl (fun K hK => ?_)); simp only [go_sem, seval, ↓reduceIte, decide_true, decide_false, show (j : Int) < (k : Int) by omega, decide_true, show (m : Int) ≠ 0 by omega, tdivN2, hwd, show ¬ ((m ^ j : Nat) : Int) > ((most / m : Nat) : Int) from Int.not_lt.2 (Int.ofNat_le.2 (hdiv.1 hq)), decide_false, ← Int.natCast_mul, hs, wid ((m ^ (j + 1) : Nat) : Int) (by omega) (by omega), wid ((j : Int) + 1) (by omega) (by omega)]; (refine hK _ _ _ (by simp only [go_sem, Nat.reduceEqDiff, ↓reduceIte]; rfl) ?_); clear hK; clear K) | (with_reducible first | refine rgn_nil (by first | trivial | kernel_rfl) ?_ | refine AWP.seq ?_ | refine tX hC hP (by kernel_rfl) ?_ | refine aX hC hM hP (by kernel_rfl) ?_ | refine AWP.skip ?_ | refine AWP.label ?_ | refine AWP.exit ?_ | refine AWP.block ?_ | refine cTa ?_ | refine cFa ?_) | simp only [qS, Nat.reduceEqDiff, ↓reduceIte]))
        exact ⟨j + 1, ⟨hlt, hq⟩, by omega, by simp [Sub, lk]⟩
      · have hE : szM m k most = most + 1 := if_neg (fun h => hq (Nat.le_trans (pow_mono1 hm hlt) h))
        have hgt : ((m ^ j : Nat) : Int) > ((most / m : Nat) : Int) := Int.ofNat_lt.2 (Nat.lt_of_not_le (mt hdiv.2 hq))
        have hmq : ((most / m : Nat) : Int) ≤ (most : Int) := Int.ofNat_le.2 hdl
        (repeat (first | ((with_reducible refine rgn_cons rfl (fun K hK => ?_)); simp only [go_sem, seval, ↓reduceIte, decide_true, decide_false, show (j : Int) < (k : Int) by omega, decide_true, show (m : Int) ≠ 0 by omega, tdivN2, hwd, hgt, wid ((most : Int) + 1) (by omega) (by omega)]; (refine hK _ _ _ (by simp only [go_sem, Nat.reduceEqDiff, ↓reduceIte]; rfl) ?_); clear hK; clear K) | (with_reducible first | refine rgn_nil (by first | trivial | kernel_rfl) ?_ | refine AWP.seq ?_ | refine tX hC hP (by kernel_rfl) ?_ | refine aX hC hM hP (by kernel_rfl) ?_ | refine AWP.skip ?_ | refine AWP.label ?_ | refine AWP.exit ?_ | refine AWP.block ?_ | refine cTa ?_ | refine cFa ?_) | simp only [qS, Nat.reduceEqDiff, ↓reduceIte]))
        (refine AWP.ret ?_; refine retOk1 (by simp only [go_sem, seval, ↓reduceIte, decide_true, decide_false]; rfl) ?_)
        rw [hE]; rfl
    · have e : j = k := by omega
      have hE : szM m k most = m ^ k := if_pos (by rw [← e]; exact hj.2)
      (repeat (first | ((with_reducible refine rgn_cons rfl (fun K hK => ?_)); simp only [go_sem, seval, ↓reduceIte, decide_true, decide_false, show ¬ (j : Int) < (k : Int) by omega, decide_false]; (refine hK _ _ _ (by simp only [go_sem, Nat.reduceEqDiff, ↓reduceIte]; rfl) ?_); clear hK; clear K) | (with_reducible first | refine rgn_nil (by first | trivial | kernel_rfl) ?_ | refine AWP.seq ?_ | refine tX hC hP (by kernel_rfl) ?_ | refine aX hC hM hP (by kernel_rfl) ?_ | refine AWP.skip ?_ | refine AWP.label ?_ | refine AWP.exit ?_ | refine AWP.block ?_ | refine cTa ?_ | refine cFa ?_) | simp only [qS, Nat.reduceEqDiff, ↓reduceIte]))
      (refine AWP.ret ?_; refine retOk1 (by simp only [go_sem, seval, ↓reduceIte, decide_true, decide_false]; rfl) ?_)
      rw [hE, e]
def zrB (l : List Int) : Bool := l.all (fun x => x == 0)
set_option maxHeartbeats 1000000 in
theorem c_spec_l16Zero (l : List Int) (hl : l.length ≤ 1000000000) : AFn Try.prog 84 [.sl false 2 (intL l)] (.bool (zrB l)) := by
  refine AFn.of' ttOk (by decide) Try.func84 Try.ntmps84 (by rw [Try.results84]) (by rfl) (by rfl) (by simp) (by decide) (by simp only [go_sem, Nat.reduceAdd, ↓reduceIte]; rfl) mixed (fun C hP hM hC => ?_)
  (repeat (first | ((with_reducible refine rgn_cons rfl (fun K hK => ?_)); simp only [go_sem, seval, ↓reduceIte, decide_true, decide_false]; (refine hK _ _ _ (by simp only [go_sem, Nat.reduceEqDiff, ↓reduceIte]; rfl) ?_); clear hK; clear K) | (with_reducible first | refine rgn_nil (by first | trivial | kernel_rfl) ?_ | refine AWP.seq ?_ | refine tX hC hP (by kernel_rfl) ?_ | refine aX hC hM hP (by kernel_rfl) ?_ | refine AWP.skip ?_ | refine AWP.label ?_ | refine AWP.exit ?_ | refine AWP.block ?_ | refine cTa ?_ | refine cFa ?_) | simp only [qS, Nat.reduceEqDiff, ↓reduceIte]))
  refine AWP.loop (fun i : Nat => [(3, ⟨0, .val (.int .i64 i)⟩), (0, ⟨0, .val (.sl false 2 (intL l))⟩)]) (fun i => i ≤ l.length ∧ ∀ j, j < i → (l.getD j 0 == 0) = true) (fun i => l.length - i) 0 ⟨Nat.zero_le _, fun j hj => by omega⟩ (fun i => rfl) ?_ (fun i hi => ?_)
  · simp [Sub, lk]
  · by_cases hlt : i < l.length
    · by_cases hx : l.getD i 0 = 0
      · (repeat (first | ((with_reducible refine rgn_cons rfl (fun K hK => ?_)); simp only [go_sem, seval, ↓reduceIte, decide_true, decide_false, show (i : Int) < (l.length : Int) by omega, decide_true, intL_getD l i hlt, Int.toNat_natCast, Int.natCast_nonneg, hx, show ((0 : Int) != 0) = false from rfl, wid ((i : Int) + 1) (by omega) (by omega)]; (refine hK _ _ _ (by simp only [go_sem, Nat.reduceEqDiff, ↓reduceIte]; rfl) ?_); clear hK; clear K) | (with_reducible first | refine rgn_nil (by first | trivial | kernel_rfl) ?_ | refine AWP.seq ?_ | refine tX hC hP (by kernel_rfl) ?_ | refine aX hC hM hP (by kernel_rfl) ?_ | refine AWP.skip ?_ | refine AWP.label ?_ | refine AWP.exit ?_ | refine AWP.block ?_ | refine cTa ?_ | refine cFa ?_) | simp only [qS, Nat.reduceEqDiff, ↓reduceIte]))
        refine ⟨i + 1, ⟨hlt, fun j hj => ?_⟩, by omega, by simp [Sub, lk]⟩
        by_cases e : j = i
        · rw [e, hx]; rfl
        · exact hi.2 j (by omega)
      · (repeat (first | ((with_reducible refine rgn_cons rfl (fun K hK => ?_)); simp only [go_sem, seval, ↓reduceIte, decide_true, decide_false, show (i : Int) < (l.length : Int) by omega, decide_true, intL_getD l i hlt, Int.toNat_natCast, Int.natCast_nonneg, show (l.getD i 0 != 0) = true by rw [bne_iff_ne]; exact hx]; (refine hK _ _ _ (by simp only [go_sem, Nat.reduceEqDiff, ↓reduceIte]; rfl) ?_); clear hK; clear K) | (with_reducible first | refine rgn_nil (by first | trivial | kernel_rfl) ?_ | refine AWP.seq ?_ | refine tX hC hP (by kernel_rfl) ?_ | refine aX hC hM hP (by kernel_rfl) ?_ | refine AWP.skip ?_ | refine AWP.label ?_ | refine AWP.exit ?_ | refine AWP.block ?_ | refine cTa ?_ | refine cFa ?_) | simp only [qS, Nat.reduceEqDiff, ↓reduceIte]))
        (refine AWP.ret ?_; refine retOk1 (by simp only [go_sem, seval, ↓reduceIte, decide_true, decide_false]; rfl) ?_)
        rw [zrB, all_not hlt (by rw [beq_eq_false_iff_ne]; exact hx)]
    · (repeat (first | ((with_reducible refine rgn_cons rfl (fun K hK => ?_)); simp only [go_sem, seval, ↓reduceIte, decide_true, decide_false, show ¬ (i : Int) < (l.length : Int) by omega, decide_false]; (refine hK _ _ _ (by simp only [go_sem, Nat.reduceEqDiff, ↓reduceIte]; rfl) ?_); clear hK; clear K) | (with_reducible first | refine rgn_nil (by first | trivial | kernel_rfl) ?_ | refine AWP.seq ?_ | refine tX hC hP (by kernel_rfl) ?_ | refine aX hC hM hP (by kernel_rfl) ?_ | refine AWP.skip ?_ | refine AWP.label ?_ | refine AWP.exit ?_ | refine AWP.block ?_ | refine cTa ?_ | refine cFa ?_) | simp only [qS, Nat.reduceEqDiff, ↓reduceIte]))
      (refine AWP.ret ?_; refine retOk1 (by simp only [go_sem, seval, ↓reduceIte, decide_true, decide_false]; rfl) ?_)
      rw [zrB, all_of_prefix (fun j hj => hi.2 j (by omega))]
theorem tl0 {m : Int} {a b : List Int} {d : Nat} : at' (timesL m a b d) 0 = at' a 0 * at' b 0 % m := by
  rw [timesL, at_tab (by omega), cv, sm, sm]
  simp
theorem pw0 {m : Int} {a : List Int} {d : Nat} (h : at' a 0 = 0) (i : Nat) : at' (pwS m a d (i + 1)) 0 = 0 := by
  rw [pwS, tl0, h]; simp
theorem putR0 {m : Int} {t : Nat → Nat → Int} {a b : List Int} {d i : Nat} {acc : List Int} (ha : at' a 0 = 0) (hb : at' b 0 = 0) (ht : t 0 0 = 0) (h : at' acc 0 = 0) : ∀ j, at' (putR m t (pwS m a d) (pwS m b d) d i acc j) 0 = 0
  | 0 => h
  | j + 1 => by
    unfold putR
    split
    · exact putR0 ha hb ht h j
    · rename_i hne
      rw [addL, at_tab (by omega), putR0 ha hb ht h j, scL, at_tab (by omega), tl0]
      cases i with
      | zero =>
        cases j with
        | zero => exact absurd ht hne
        | succ j => rw [pw0 hb]; simp
      | succ i => rw [pw0 ha]; simp
theorem put0 {m : Int} {t : Nat → Nat → Int} {a b : List Int} {d : Nat} (ha : at' a 0 = 0) (hb : at' b 0 = 0) (ht : t 0 0 = 0) : at' (putL m t a b d) 0 = 0 := by
  have key : ∀ i, at' (putO m t (pwS m a d) (pwS m b d) d i) 0 = 0 := fun i => by
    induction i with
    | zero => rw [putO, at_tab (by omega)]
    | succ i ih => exact putR0 ha hb ht ih _
  exact key _
theorem mu0 {m : Int} {t : Nat → Nat → Int} {d : Nat} (ht : t 0 0 = 0) (k : Nat) : ∀ {o b : List Int}, at' o 0 = 0 → at' b 0 = 0 → at' (muL m t d o b k) 0 = 0 := by
  induction k using Nat.strongRecOn with
  | _ k ih =>
    intro o b h1 h2
    rcases Nat.eq_zero_or_pos k with e | e
    · subst e; rw [muL_zero]; exact h1
    · by_cases h : k % 2 = 1
      · rw [muL_odd h]; exact ih _ (by omega) (put0 h1 h2 ht) (put0 h2 h2 ht)
      · rw [muL_even e (by omega)]; exact ih _ (by omega) h1 (put0 h2 h2 ht)
theorem zrB_cons {l : List Int} (h : at' l 0 = 0) (hl : 0 < l.length) : zrB l = zrB (l.drop 1) := by
  cases l with
  | nil => simp at hl
  | cons x l =>
    have hx : x = 0 := h
    simp [zrB, hx]
/-- Whether the multiple of a point is the point of zeros. -/
def klB (m : Int) (ll : List (List Int)) (x : List Int) (n : Nat) : Bool := zrB (mpL m ll n x)
theorem kl_all {m : Int} {ll : List (List Int)} {x : List Int} {n : Nat} (h : ptC m ll [x] = 0) : zrB (mzL m (pc (tab2 (x.length + 1) (pc ll))) x.length (0 :: x) n) = klB m ll x n := by
  have hp := pt_one h
  have hw := lawB_of (ptC_zero h).1
  have f := mzL_facts (m := m) (by omega) (pc (tab2 (x.length + 1) (pc ll))) x.length (0 :: x) n
  unfold klB mpL
  refine zrB_cons ?_ (by omega)
  have ht : pc (tab2 (x.length + 1) (pc ll)) 0 0 = 0 := by
    rw [pc_tab2 (by omega), hw.2.1 0 (by omega), if_neg (by omega)]
  rw [mzL, if_neg (by omega)]
  exact mu0 ht _ (by rw [zrL, at_tab (by omega)]) rfl
def eqB (la lb : List Int) : Bool := decide (la = lb)
theorem eq_of_at {la lb : List Int} (h : la.length = lb.length) (h2 : ∀ i, i < la.length → la.getD i 0 = lb.getD i 0) : la = lb := by
  apply List.ext_getElem h
  intro i g1 g2
  have := h2 i g1
  rw [List.getD_eq_getElem?_getD, List.getD_eq_getElem?_getD, List.getElem?_eq_getElem g1, List.getElem?_eq_getElem g2] at this
  exact this
set_option maxHeartbeats 1000000 in
theorem c_slices_Equal_int64_int64 (la lb : List Int) (h : la.length = lb.length) (hl : la.length ≤ 1000000000) : AFn Try.prog 137 [.sl false 2 (intL la), .sl false 2 (intL lb)] (.bool (eqB la lb)) := by
  refine AFn.of' ttOk (by decide) Try.func137 Try.ntmps137 (by rw [Try.results137]) (by rfl) (by rfl) (by simp) (by decide) (by simp only [go_sem, Nat.reduceAdd, ↓reduceIte]; rfl) mixed (fun C hP hM hC => ?_)
  (repeat (first | ((with_reducible refine rgn_cons rfl (fun K hK => ?_)); simp only [go_sem, seval, ↓reduceIte, decide_true, decide_false, show ((la.length : Int) != (lb.length : Int)) = false by rw [h]; simp]; (refine hK _ _ _ (by simp only [go_sem, Nat.reduceEqDiff, ↓reduceIte]; rfl) ?_); clear hK; clear K) | (with_reducible first | refine rgn_nil (by first | trivial | kernel_rfl) ?_ | refine AWP.seq ?_ | refine tX hC hP (by kernel_rfl) ?_ | refine aX hC hM hP (by kernel_rfl) ?_ | refine AWP.skip ?_ | refine AWP.label ?_ | refine AWP.exit ?_ | refine AWP.block ?_ | refine cTa ?_ | refine cFa ?_) | simp only [qS, Nat.reduceEqDiff, ↓reduceIte]))
  refine AWP.loop (fun i : Nat => [(13, ⟨0, .val (.int .i64 i)⟩), (12, ⟨0, .val (.int .i64 la.length)⟩), (0, ⟨0, .val (.sl false 2 (intL la))⟩), (1, ⟨0, .val (.sl false 2 (intL lb))⟩)]) (fun i => i ≤ la.length ∧ ∀ j, j < i → la.getD j 0 = lb.getD j 0) (fun i => la.length - i) 0 ⟨Nat.zero_le _, fun j hj => by omega⟩ (fun i => rfl) ?_ (fun i hi => ?_)
  · simp [Sub, lk]
  · by_cases hlt : i < la.length
    · by_cases hx : la.getD i 0 = lb.getD i 0
      · (repeat (first | ((with_reducible refine rgn_cons rfl (fun K hK => ?_)); simp only [go_sem, seval, ↓reduceIte, decide_true, decide_false, show (i : Int) < (la.length : Int) by omega, show (i : Int) < (lb.length : Int) by omega, decide_true, intL_getD la i hlt, intL_getD lb i (by omega), Int.toNat_natCast, Int.natCast_nonneg, show (la.getD i 0 != lb.getD i 0) = false by rw [hx]; simp, wid ((i : Int) + 1) (by omega) (by omega)]; (refine hK _ _ _ (by simp only [go_sem, Nat.reduceEqDiff, ↓reduceIte]; rfl) ?_); clear hK; clear K) | (with_reducible first | refine rgn_nil (by first | trivial | kernel_rfl) ?_ | refine AWP.seq ?_ | refine tX hC hP (by kernel_rfl) ?_ | refine aX hC hM hP (by kernel_rfl) ?_ | refine AWP.skip ?_ | refine AWP.label ?_ | refine AWP.exit ?_ | refine AWP.block ?_ | refine cTa ?_ | refine cFa ?_) | simp only [qS, Nat.reduceEqDiff, ↓reduceIte]))
        refine ⟨i + 1, ⟨hlt, fun j hj => ?_⟩, by omega, by simp [Sub, lk]⟩
        by_cases e : j = i
        · rw [e]; exact hx
        · exact hi.2 j (by omega)
      · (repeat (first | ((with_reducible refine rgn_cons rfl (fun K hK => ?_)); simp only [go_sem, seval, ↓reduceIte, decide_true, decide_false, show (i : Int) < (la.length : Int) by omega, show (i : Int) < (lb.length : Int) by omega, decide_true, intL_getD la i hlt, intL_getD lb i (by omega), Int.toNat_natCast, Int.natCast_nonneg, show (la.getD i 0 != lb.getD i 0) = true by rw [bne_iff_ne]; exact hx]; (refine hK _ _ _ (by simp only [go_sem, Nat.reduceEqDiff, ↓reduceIte]; rfl) ?_); clear hK; clear K) | (with_reducible first | refine rgn_nil (by first | trivial | kernel_rfl) ?_ | refine AWP.seq ?_ | refine tX hC hP (by kernel_rfl) ?_ | refine aX hC hM hP (by kernel_rfl) ?_ | refine AWP.skip ?_ | refine AWP.label ?_ | refine AWP.exit ?_ | refine AWP.block ?_ | refine cTa ?_ | refine cFa ?_) | simp only [qS, Nat.reduceEqDiff, ↓reduceIte]))
        (refine AWP.ret ?_; refine retOk1 (by simp only [go_sem, seval, ↓reduceIte, decide_true, decide_false]; rfl) ?_)
        rw [eqB, decide_eq_false (fun e => hx (by rw [e]))]
    · (repeat (first | ((with_reducible refine rgn_cons rfl (fun K hK => ?_)); simp only [go_sem, seval, ↓reduceIte, decide_true, decide_false, show ¬ (i : Int) < (la.length : Int) by omega, decide_false]; (refine hK _ _ _ (by simp only [go_sem, Nat.reduceEqDiff, ↓reduceIte]; rfl) ?_); clear hK; clear K) | (with_reducible first | refine rgn_nil (by first | trivial | kernel_rfl) ?_ | refine AWP.seq ?_ | refine tX hC hP (by kernel_rfl) ?_ | refine aX hC hM hP (by kernel_rfl) ?_ | refine AWP.skip ?_ | refine AWP.label ?_ | refine AWP.exit ?_ | refine AWP.block ?_ | refine cTa ?_ | refine cFa ?_) | simp only [qS, Nat.reduceEqDiff, ↓reduceIte]))
      (refine AWP.ret ?_; refine retOk1 (by simp only [go_sem, seval, ↓reduceIte, decide_true, decide_false]; rfl) ?_)
      rw [eqB, decide_eq_true (eq_of_at h (fun j hj => hi.2 j (by omega)))]
set_option maxHeartbeats 1000000 in
theorem c_impl_Series_same (m : Int) (la lb : List Int) (h : la.length = lb.length) (hl : la.length ≤ 1000000000) : AFn Try.prog 116 [.agg [.int .i64 m, .sl false 2 (intL la)], .agg [.int .i64 m, .sl false 2 (intL lb)]] (.bool (eqB la lb)) := by
  refine AFn.of' ttOk (by decide) Try.func116 Try.ntmps116 (by rw [Try.results116]) (by rfl) (by rfl) (by simp) (by decide) (by simp only [go_sem, Nat.reduceAdd, ↓reduceIte]; rfl) mixed (fun C hP hM hC => ?_)
  (repeat (first | ((with_reducible refine rgn_cons rfl (fun K hK => ?_)); simp only [go_sem, seval, ↓reduceIte, decide_true, decide_false, show (m == m) = true by simp]; (first | refine hK _ _ _ (by simp only [go_sem, Nat.reduceEqDiff, ↓reduceIte]; rfl) ?_ | refine ⟨_, c_slices_Equal_int64_int64 la lb h hl, hK _ _ _ (by simp only [go_sem, Nat.reduceEqDiff, ↓reduceIte]; rfl) ?_⟩); clear hK; clear K) | (with_reducible first | refine rgn_nil (by first | trivial | kernel_rfl) ?_ | refine AWP.seq ?_ | refine tX hC hP (by kernel_rfl) ?_ | refine aX hC hM hP (by kernel_rfl) ?_ | refine AWP.skip ?_ | refine AWP.label ?_ | refine AWP.exit ?_ | refine AWP.block ?_ | refine cTa ?_ | refine cFa ?_) | simp only [qS, Nat.reduceEqDiff, ↓reduceIte]))
  (refine AWP.ret ?_; refine retOk1 (by simp only [go_sem, seval, ↓reduceIte, decide_true, decide_false]; rfl) ?_)
  rfl
theorem eqB_zr {l : List Int} {d : Nat} (h : l.length = d + 1) : eqB l (tab (d + 1) (fun _ => 0)) = zrB l := by
  by_cases e : l = tab (d + 1) (fun _ => 0)
  · rw [eqB, decide_eq_true e, e]
    symm
    rw [zrB, tab_all]
    intro i _; rfl
  · rw [eqB, decide_eq_false e]
    symm
    cases hz : zrB l with
    | false => rfl
    | true =>
      exfalso
      apply e
      refine eq_of_at (by rw [h, tab_length]) (fun i hi => ?_)
      rw [tab_getD (by omega)]
      have := List.all_eq_true.1 hz (l.getD i 0) (by rw [List.getD_eq_getElem?_getD, List.getElem?_eq_getElem hi]; simp)
      simpa using this
set_option maxHeartbeats 1000000 in
theorem c_impl_Plane_kills (M n : Nat) (ll : List (List Int)) (x : List Int) (h : ptC M ll [x] = 0) (hn : n ≤ 1000000000000) : AFn Try.prog 89 [.agg [.int .i64 (M : Int), .sl false 25 (rowsF (tab2 (x.length + 1) (pc ll)))], .int .i64 n, .agg [.int .i64 (M : Int), .sl false 2 (intL (0 :: x))]] (.bool (klB M ll x n)) := by
  refine AFn.of' ttOk (by decide) Try.func89 Try.ntmps89 (by rw [Try.results89]) (by rfl) (by rfl) (by simp) (by decide) (by simp only [go_sem, Nat.reduceAdd, ↓reduceIte]; rfl) mixed (fun C hP hM hC => ?_)
  obtain ⟨h1, h2, h3, h4, h5, h6, h7, h8⟩ := pt_one h
  have hka := kl_all (n := n) h
  have ha0 : ∀ y ∈ (0 :: x), 0 ≤ y ∧ y < (M : Int) := fun y hy => by
    rcases List.mem_cons.1 hy with e | e
    · omega
    · exact h7 y e
  have hD := c_impl_Plane_degree (M : Int) (tab2 (x.length + 1) (pc ll)) (by rw [tab2_length]; omega)
  rw [tab2_length, show ((x.length + 1 : Nat) : Int) - 1 = (x.length : Int) by omega] at hD
  have hM1 := c_impl_Plane_multiple (M : Int) n (tab2 (x.length + 1) (pc ll)) (0 :: x) x.length h1 h2 h8 h3 (by omega) ha0 (by simp) (by omega) (by omega)
  have f := mzL_facts (m := (M : Int)) (by omega) (pc (tab2 (x.length + 1) (pc ll))) x.length (0 :: x) n
  generalize mzL (M : Int) (pc (tab2 (x.length + 1) (pc ll))) x.length (0 :: x) n = P at *
  have hS := c_impl_Series_same (M : Int) P (tab (x.length + 1) (fun _ => 0)) (by rw [f.1, tab_length]) (by omega)
  rw [eqB_zr f.1, hka] at hS
  (repeat (first | ((with_reducible refine rgn_cons rfl (fun K hK => ?_)); simp only [go_sem, seval, ↓reduceIte, decide_true, decide_false]; (first | refine hK _ _ _ (by simp only [go_sem, Nat.reduceEqDiff, ↓reduceIte]; rfl) ?_ | refine ⟨_, hD, hK _ _ _ (by simp only [go_sem, Nat.reduceEqDiff, ↓reduceIte]; rfl) ?_⟩ | refine ⟨_, hM1, hK _ _ _ (by simp only [go_sem, Nat.reduceEqDiff, ↓reduceIte]; rfl) ?_⟩ | refine ⟨_, c_impl_zero (M : Int) (x.length : Int) (x.length + 1) (by omega) (by omega), hK _ _ _ (by simp only [go_sem, Nat.reduceEqDiff, ↓reduceIte]; rfl) ?_⟩ | refine ⟨_, hS, hK _ _ _ (by simp only [go_sem, Nat.reduceEqDiff, ↓reduceIte]; rfl) ?_⟩); clear hK; clear K) | (with_reducible first | refine rgn_nil (by first | trivial | kernel_rfl) ?_ | refine AWP.seq ?_ | refine tX hC hP (by kernel_rfl) ?_ | refine aX hC hM hP (by kernel_rfl) ?_ | refine AWP.skip ?_ | refine AWP.label ?_ | refine AWP.exit ?_ | refine AWP.block ?_ | refine cTa ?_ | refine cFa ?_) | simp only [qS, Nat.reduceEqDiff, ↓reduceIte]))
  (refine AWP.ret ?_; refine retOk1 (by simp only [go_sem, seval, ↓reduceIte, decide_true, decide_false]; rfl) ?_)
  rfl

end Go.Proofs.Ytfnfdjomkohfjaa
