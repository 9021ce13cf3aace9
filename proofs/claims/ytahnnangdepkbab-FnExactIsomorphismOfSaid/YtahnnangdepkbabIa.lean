/-
  Planes of curves; when a curve is a homomorphism. No program.
-/
import Derived.Test.YtahnnangdepkbabKg
import Derived.Test.YtahnnangdepkbabQb
import Derived.Test.YtahnnangdepkbabCu
namespace Go.Proofs.Ytahnnangdepkbab
open Go.RowKit
set_option linter.unusedSimpArgs false
set_option linter.unusedVariables false
set_option linter.unusedSectionVars false
set_option maxRecDepth 20000
-- Planes of curves; when a curve is a homomorphism. No program.
/-- The terms ahead of the place (i, j). -/
def sij (n : Nat) (t p q : Nat → Nat → Int) (i j u v : Nat) : Int := sm i (fun a => sm (n - a) (fun b => t a b * (p a u * q b v))) + sm j (fun b => t i b * (p i u * q b v))
theorem sij_zero (n : Nat) (t p q : Nat → Nat → Int) (u v : Nat) : sij n t p q 0 0 u v = 0 := rfl
theorem sij_next (n : Nat) (t p q : Nat → Nat → Int) (i u v : Nat) : sij n t p q i (n - i) u v = sij n t p q (i + 1) 0 u v := by
  show _ = sm (i + 1) _ + 0
  rw [Int.add_zero]; rfl
theorem sij_step (n : Nat) (t p q : Nat → Nat → Int) (i j u v : Nat) : sij n t p q i (j + 1) u v = sij n t p q i j u v + t i j * (p i u * q j v) := by
  show sm i _ + (sm j _ + _) = _
  rw [← Int.add_assoc]; rfl
def bthT (m : Int) (n : Nat) (t p q : Nat → Nat → Int) : List (List Int) := tab2 n (fun u v => sij n t p q n 0 u v % m)
/-- The coefficients of a curve's powers. -/
def pwC (m : Int) (a : List Int) (d i u : Nat) : Int := at' (pwS m a d i) u
/-- The curve a leads the one table to the other. -/
def hmB (m : Int) (n : Nat) (tf tg : Nat → Nat → Int) (a : List Int) : Bool := decide (aftL m n tf a a.length = bthT m n tg (pwC m a (n - 1)) (pwC m a (n - 1)))
theorem tab2_iff {n : Nat} {f g : Nat → Nat → Int} : tab2 n f = tab2 n g ↔ ∀ u v, u + v < n → f u v = g u v :=
  ⟨fun h u v huv => by rw [← pc_tab2 (f := f) huv, ← pc_tab2 (f := g) huv, h], fun h => tab2_congr h⟩
theorem tab2_pc (n : Nat) (f : Nat → Nat → Int) : tab2 n f = tab2 n (pc (tab2 n f)) := tab2_congr fun u v h => (pc_tab2 h).symm
theorem aftL_tab {m : Int} {n : Nat} {t : Nat → Nat → Int} {c : List Int} : ∀ k, aftL m n t c k = tab2 n (pc (aftL m n t c k))
  | 0 => by rw [aftL]; exact tab2_pc n _
  | k + 1 => by rw [aftL]; exact tab2_pc n _
theorem hmB_iff {m : Int} (hm : 0 < m) {n : Nat} {tf tg : Nat → Nat → Int} {a : List Int} : hmB m n tf tg a = true ↔ ∀ u v, u + v < n → sm a.length (fun i => at' a i * pc (pwP m n tf i) u v) % m = sij n tg (pwC m a (n - 1)) (pwC m a (n - 1)) n 0 u v % m := by
  unfold hmB
  rw [decide_eq_true_eq, aftL_tab, bthT, tab2_iff]
  exact ⟨fun h u v huv => by rw [← aftL_end hm huv]; exact h u v huv, fun h u v huv => by rw [aftL_end hm huv]; exact h u v huv⟩
theorem pwP_le {m : Int} {n k : Nat} {t t' : Nat → Nat → Int} (hk : k ≤ n) (ht : ∀ a b, a + b < k → t' a b = t a b) : ∀ i u v, u + v < k → pc (pwP m k t' i) u v = pc (pwP m n t i) u v
  | 0, u, v, h => by rw [pwP, pwP, numP, numP, pc_tab2 h, pc_tab2 (by omega)]
  | i + 1, u, v, h => by
    rw [pwP, pwP, pmul, pmul, pc_tab2 h, pc_tab2 (by omega)]
    refine congrArg (· % m) ?_
    unfold cv2
    refine sm_congr fun a ha => sm_congr fun b hb => ?_
    rw [pwP_le hk ht i a b (by omega), ht _ _ (by omega)]
theorem pwP_low {m : Int} {n : Nat} {t : Nat → Nat → Int} (ht : t 0 0 = 0) : ∀ i u v, u + v < i → pc (pwP m n t i) u v = 0
  | 0, u, v, h => by omega
  | i + 1, u, v, h => by
    by_cases hn : n ≤ u + v
    · rw [pwP, pmul, pc_out hn]
    · rw [pwP, pmul, pc_tab2 (by omega)]
      have : cv2 (pc (pwP m n t i)) t u v = 0 := by
        unfold cv2
        refine sm_zero fun a ha => sm_zero fun b hb => ?_
        by_cases e : a + b < i
        · rw [pwP_low ht i a b e, Int.zero_mul]
        · rw [show u - a = 0 by omega, show v - b = 0 by omega, ht, Int.mul_zero]
      rw [this, Int.zero_emod]
theorem pwC_succ {m : Int} {a : List Int} {d i u : Nat} (hu : u ≤ d) : pwC m a d (i + 1) u = cv (pwC m a d i) (at' a) u % m := by
  unfold pwC
  rw [pwS, timesL, at_tab (by omega)]
theorem pwC_low {m : Int} {a : List Int} {d : Nat} (h0 : at' a 0 = 0) : ∀ i u, u < i → u ≤ d → pwC m a d i u = 0
  | 0, u, h, _ => by omega
  | i + 1, u, h, hu => by
    rw [pwC_succ hu]
    have : cv (pwC m a d i) (at' a) u = 0 := by
      unfold cv
      refine sm_zero fun k hk => ?_
      by_cases e : k < i
      · rw [pwC_low h0 i k e (by omega), Int.zero_mul]
      · rw [show u - k = 0 by omega, h0, Int.mul_zero]
    rw [this, Int.zero_emod]
theorem pwC_le {m : Int} {a b : List Int} {d e : Nat} (he : d ≤ e) (hab : ∀ i, i ≤ d → at' b i = at' a i) : ∀ i u, u ≤ d → pwC m b e i u = pwC m a d i u
  | 0, u, h => by
    unfold pwC
    rw [pwS, pwS, oneL, oneL, at_tab (by omega), at_tab (by omega)]
  | i + 1, u, h => by
    rw [pwC_succ (by omega), pwC_succ h]
    refine congrArg (· % m) ?_
    unfold cv
    exact sm_congr fun k hk => by rw [pwC_le he hab i k (by omega), hab _ (by omega)]
/-- A curve that leads the one law to the other does so when it is cut. -/
theorem hmB_cut {m : Int} (hm : 0 < m) {N : Nat} {tf tg tf' tg' : Nat → Nat → Int} {a b : List Int} (hN : 1 ≤ N) (ha : a.length = N) (hb : b.length = N + 1) (hab : ∀ i, i < N → at' b i = at' a i) (h0 : at' a 0 = 0) (ht : tf 0 0 = 0)
    (hf : ∀ u v, u + v < N → tf' u v = tf u v) (hg : ∀ u v, u + v < N → tg' u v = tg u v) (h : hmB m (N + 1) tf tg b = true) : hmB m N tf' tg' a = true := by
  rw [hmB_iff hm] at h ⊢
  intro u v huv
  have h1 := h u v (by omega)
  have e1 : sm b.length (fun i => at' b i * pc (pwP m (N + 1) tf i) u v) = sm a.length (fun i => at' a i * pc (pwP m N tf' i) u v) := by
    rw [ha, hb]
    show sm N (fun i => at' b i * pc (pwP m (N + 1) tf i) u v) + at' b N * pc (pwP m (N + 1) tf N) u v = _
    rw [pwP_low ht N u v huv, Int.mul_zero, Int.add_zero]
    exact sm_congr fun i hi => by rw [hab i hi, pwP_le (show N ≤ N + 1 by omega) hf i u v huv]
  have hb0 : at' b 0 = 0 := by rw [hab 0 (by omega), h0]
  have e2 : sij (N + 1) tg (pwC m b (N + 1 - 1)) (pwC m b (N + 1 - 1)) (N + 1) 0 u v = sij N tg' (pwC m a (N - 1)) (pwC m a (N - 1)) N 0 u v := by
    have hp : ∀ i w, w < N → pwC m b (N + 1 - 1) i w = pwC m a (N - 1) i w := fun i w hw => pwC_le (show N - 1 ≤ N + 1 - 1 by omega) (fun i hi => hab i (by omega)) i w (by omega)
    show sm (N + 1) _ + sm 0 _ = sm N _ + sm 0 _
    refine congrArg (· + (0 : Int)) ?_
    show sm N _ + sm (N + 1 - N) _ = _
    rw [sm_zero (n := N + 1 - N) (fun c hc => by rw [pwC_low hb0 N u (by omega) (by omega), Int.zero_mul, Int.mul_zero]), Int.add_zero]
    refine sm_congr fun i hi => ?_
    rw [show N + 1 - i = (N - i) + 1 by omega]
    have e9 : ∀ (f : Nat → Int), f (N - i) = 0 → sm (N - i + 1) f = sm (N - i) f := fun f hf => by
      show sm (N - i) f + f (N - i) = _
      rw [hf, Int.add_zero]
    have hz : tg i (N - i) * (pwC m b (N + 1 - 1) i u * pwC m b (N + 1 - 1) (N - i) v) = 0 := by
      by_cases hu : u < i
      · rw [pwC_low hb0 i u hu (by omega), Int.zero_mul, Int.mul_zero]
      · rw [pwC_low hb0 (N - i) v (by omega) (by omega), Int.mul_zero, Int.mul_zero]
    rw [e9 _ hz]
    exact sm_congr fun j hj => by rw [hp i u (by omega), hp j v (by omega), hg i j (by omega)]
  rw [e1, e2] at h1
  exact h1
/-- .. what lies beyond the degree does not matter. -/
theorem hmB_tab {m : Int} (hm : 0 < m) {N : Nat} {tf tg tf' tg' : Nat → Nat → Int} {a : List Int} (hf : ∀ u v, u + v < N → tf' u v = tf u v) (hg : ∀ u v, u + v < N → tg' u v = tg u v) : hmB m N tf' tg' a = hmB m N tf tg a := by
  rw [Bool.eq_iff_iff, hmB_iff hm, hmB_iff hm]
  have key : ∀ u v, u + v < N → (sm a.length (fun i => at' a i * pc (pwP m N tf' i) u v) = sm a.length (fun i => at' a i * pc (pwP m N tf i) u v)) ∧ sij N tg' (pwC m a (N - 1)) (pwC m a (N - 1)) N 0 u v = sij N tg (pwC m a (N - 1)) (pwC m a (N - 1)) N 0 u v := fun u v huv => by
    refine ⟨sm_congr fun i _ => by rw [pwP_le (Nat.le_refl N) hf i u v huv], ?_⟩
    show sm N _ + 0 = sm N _ + 0
    refine congrArg (· + (0 : Int)) (sm_congr fun i hi => sm_congr fun j hj => ?_)
    rw [hg i j (by omega)]
  exact ⟨fun h u v huv => by rw [← (key u v huv).1, ← (key u v huv).2]; exact h u v huv, fun h u v huv => by rw [(key u v huv).1, (key u v huv).2]; exact h u v huv⟩
-- All tuples that begin with some numbers, in order.
def al (M : Nat) : Nat → List Int → List (List Int)
  | 0, p => [p]
  | d + 1, p => (List.range M).flatMap (fun k : Nat => al M d (p ++ [(k : Int)]))
theorem al_mem {M : Nat} : ∀ d p x, x ∈ al M d p → x.length = p.length + d ∧ x.take p.length = p ∧ ((∀ z ∈ p, 0 ≤ z ∧ z < (M : Int)) → ∀ z ∈ x, 0 ≤ z ∧ z < (M : Int))
  | 0, p, x, h => by
    rw [al, List.mem_singleton] at h
    subst h
    exact ⟨rfl, List.take_length, fun h => h⟩
  | d + 1, p, x, h => by
    rw [al, List.mem_flatMap] at h
    obtain ⟨k, hk, hx⟩ := h
    rw [List.mem_range] at hk
    obtain ⟨h1, h2, h3⟩ := al_mem d _ x hx
    simp only [List.length_append, List.length_cons, List.length_nil, Nat.zero_add] at h1 h2
    refine ⟨by omega, ?_, fun hp => h3 fun z hz => ?_⟩
    · have h4 := congrArg (List.take p.length) h2
      rw [List.take_take, Nat.min_eq_left (by omega), List.take_append_of_le_length (Nat.le_refl _), List.take_length] at h4
      exact h4
    · rcases List.mem_append.1 hz with h | h
      · exact hp z h
      · rw [List.mem_singleton] at h; omega
theorem al_length (M : Nat) : ∀ d p, (al M d p).length = M ^ d
  | 0, p => rfl
  | d + 1, p => by
    have : ∀ k, ((List.range k).flatMap (fun k : Nat => al M d (p ++ [(k : Int)]))).length = k * M ^ d := by
      intro k
      induction k with
      | zero => simp
      | succ k ih => rw [List.range_succ, List.flatMap_append, List.length_append, ih, List.flatMap_singleton, al_length M d, Nat.succ_mul]
    rw [al, this, Nat.pow_succ, Nat.mul_comm]
/-- Those of the first k numbers. -/
def alK (M d : Nat) (p : List Int) (k : Nat) : List (List Int) := (List.range k).flatMap (fun k : Nat => al M d (p ++ [(k : Int)]))
theorem alK_zero (M d : Nat) (p : List Int) : alK M d p 0 = [] := rfl
theorem alK_succ (M d : Nat) (p : List Int) (k : Nat) : alK M d p (k + 1) = alK M d p k ++ al M d (p ++ [(k : Int)]) := by
  unfold alK
  rw [List.range_succ, List.flatMap_append, List.flatMap_singleton]
theorem alK_end (M d : Nat) (p : List Int) : alK M d p M = al M (d + 1) p := rfl
end Go.Proofs.Ytahnnangdepkbab
