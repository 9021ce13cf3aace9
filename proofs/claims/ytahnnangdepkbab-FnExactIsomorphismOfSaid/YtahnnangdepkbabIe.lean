/-
  The program's homomorphisms.
-/
import Derived.Test.YtahnnangdepkbabIc
namespace Go.Proofs.Ytahnnangdepkbab
open Go.RowKit
set_option linter.unusedSimpArgs false
set_option linter.unusedVariables false
set_option linter.unusedSectionVars false
set_option maxRecDepth 20000
-- The program's homomorphisms.
set_option maxHeartbeats 1000000 in
theorem c_impl_isHomomorphism (m : Int) (lf lg : List (List Int)) (a : List Int) (n : Nat) (hm : 1 < m) (hm2 : m ≤ 10000) (hf : Pl m n lf) (hg : Pl m n lg) (ha : ∀ x ∈ a, 0 ≤ x ∧ x < m) (hal : a.length = n) (hn : 1 ≤ n) (hn2 : n ≤ 1000) : AFn Try.prog 40 [.agg [.int .i64 m, .sl false 26 (rowsF lf)], .agg [.int .i64 m, .sl false 26 (rowsF lg)], .agg [.int .i64 m, .sl false 2 (intL a)]] (.bool (hmB m n (pc lf) (pc lg) a)) := by
  refine AFn.of' ttOk (by decide) Try.func40 Try.ntmps40 (by rw [Try.results40]) (by rfl) (by rfl) (by simp) (by decide) (by simp only [go_sem, Nat.reduceAdd, ↓reduceIte]; rfl) mixed (fun C hP hM hC => ?_)
  have h1 := c_impl_Series_of m a lf n (by omega) hm2 hf ha (by omega) hn hn2
  have h2 := c_impl_Plane_both m lg a a n hm hm2 hg ha hal ha hal hn hn2
  rw [aftL_tab] at h1
  rw [bthT] at h2
  have h3 := c_impl_Plane_same m n (pc (aftL m n (pc lf) a a.length)) (fun u v => sij n (pc lg) (pwC m a (n - 1)) (pwC m a (n - 1)) n 0 u v % m) hn2
  have hb : hmB m n (pc lf) (pc lg) a = decide (tab2 n (pc (aftL m n (pc lf) a a.length)) = tab2 n (fun u v => sij n (pc lg) (pwC m a (n - 1)) (pwC m a (n - 1)) n 0 u v % m)) := by
    unfold hmB
    rw [← aftL_tab]
    rfl
  (repeat (first | ((with_reducible refine rgn_cons rfl (fun K hK => ?_)); simp only [go_sem, seval, ↓reduceIte, decide_true, decide_false]; (first | refine hK _ _ _ (by simp only [go_sem, Nat.reduceEqDiff, ↓reduceIte]; rfl) ?_ | refine ⟨_, h1, hK _ _ _ (by simp only [go_sem, Nat.reduceEqDiff, ↓reduceIte]; rfl) ?_⟩ | refine ⟨_, h2, hK _ _ _ (by simp only [go_sem, Nat.reduceEqDiff, ↓reduceIte]; rfl) ?_⟩ | refine ⟨_, h3, hK _ _ _ (by simp only [go_sem, Nat.reduceEqDiff, ↓reduceIte]; rfl) ?_⟩); clear hK; clear K) | (with_reducible first | refine rgn_nil (by first | trivial | kernel_rfl) ?_ | refine AWP.seq ?_ | refine tX hC hP (by kernel_rfl) ?_ | refine aX hC hM hP (by kernel_rfl) ?_ | refine AWP.skip ?_ | refine AWP.label ?_ | refine AWP.exit ?_ | refine AWP.block ?_ | refine cTa ?_ | refine cFa ?_) | simp only [qS, Nat.reduceEqDiff, ↓reduceIte]))
  (refine AWP.ret ?_; refine retOk1 (by simp only [go_sem, seval, ↓reduceIte, decide_true, decide_false]; rfl) ?_)
  rw [hb]
/-- A unit. -/
def unB (m a : Int) : Bool := Nat.gcd a.toNat m.toNat == 1
set_option maxHeartbeats 1000000 in
theorem c_impl_isUnit (m a : Nat) (hm : m ≤ 10000) (ha : a ≤ 10000) : AFn Try.prog 41 [.int .i64 m, .int .i64 a] (.bool (unB m a)) := by
  refine AFn.of' ttOk (by decide) Try.func41 Try.ntmps41 (by rw [Try.results41]) (by rfl) (by rfl) (by simp) (by decide) (by simp only [go_sem, Nat.reduceAdd, ↓reduceIte]; rfl) mixed (fun C hP hM hC => ?_)
  have h1 := c_impl_gcd a m (by omega) (by omega)
  obtain ⟨g, hg⟩ : ∃ g, Nat.gcd a m = g := ⟨_, rfl⟩
  rw [hg] at h1
  have hu : unB m a = (g == 1) := by rw [unB, Int.toNat_natCast, Int.toNat_natCast, hg]
  by_cases e : g = 1
  · (repeat (first | ((with_reducible refine rgn_cons rfl (fun K hK => ?_)); simp only [go_sem, seval, ↓reduceIte, decide_true, decide_false, show ((g : Int) == 1) = true by rw [beq_iff_eq]; omega]; (first | refine hK _ _ _ (by simp only [go_sem, Nat.reduceEqDiff, ↓reduceIte]; rfl) ?_ | refine ⟨_, h1, hK _ _ _ (by simp only [go_sem, Nat.reduceEqDiff, ↓reduceIte]; rfl) ?_⟩); clear hK; clear K) | (with_reducible first | refine rgn_nil (by first | trivial | kernel_rfl) ?_ | refine AWP.seq ?_ | refine tX hC hP (by kernel_rfl) ?_ | refine aX hC hM hP (by kernel_rfl) ?_ | refine AWP.skip ?_ | refine AWP.label ?_ | refine AWP.exit ?_ | refine AWP.block ?_ | refine cTa ?_ | refine cFa ?_) | simp only [qS, Nat.reduceEqDiff, ↓reduceIte]))
    (refine AWP.ret ?_; refine retOk1 (by simp only [go_sem, seval, ↓reduceIte, decide_true, decide_false]; rfl) ?_)
    rw [hu, beq_iff_eq.2 e]
  · (repeat (first | ((with_reducible refine rgn_cons rfl (fun K hK => ?_)); simp only [go_sem, seval, ↓reduceIte, decide_true, decide_false, show ((g : Int) == 1) = false by rw [beq_eq_false_iff_ne]; omega]; (first | refine hK _ _ _ (by simp only [go_sem, Nat.reduceEqDiff, ↓reduceIte]; rfl) ?_ | refine ⟨_, h1, hK _ _ _ (by simp only [go_sem, Nat.reduceEqDiff, ↓reduceIte]; rfl) ?_⟩); clear hK; clear K) | (with_reducible first | refine rgn_nil (by first | trivial | kernel_rfl) ?_ | refine AWP.seq ?_ | refine tX hC hP (by kernel_rfl) ?_ | refine aX hC hM hP (by kernel_rfl) ?_ | refine AWP.skip ?_ | refine AWP.label ?_ | refine AWP.exit ?_ | refine AWP.block ?_ | refine cTa ?_ | refine cFa ?_) | simp only [qS, Nat.reduceEqDiff, ↓reduceIte]))
    (refine AWP.ret ?_; refine retOk1 (by simp only [go_sem, seval, ↓reduceIte, decide_true, decide_false]; rfl) ?_)
    rw [hu, beq_eq_false_iff_ne.2 e]
set_option maxHeartbeats 1000000 in
theorem c_impl_Series_isCoordinate (M : Nat) (x : List Int) (hm2 : M ≤ 10000) (hx : ∀ z ∈ x, 0 ≤ z ∧ z < (M : Int)) (hxl : 1 ≤ x.length) (hl : x.length ≤ 1000) : AFn Try.prog 21 [.agg [.int .i64 (M : Int), .sl false 2 (intL (0 :: x))]] (.bool (unB M (at' x 0))) := by
  refine AFn.of' ttOk (by decide) Try.func21 Try.ntmps21 (by rw [Try.results21]) (by rfl) (by rfl) (by simp) (by decide) (by simp only [go_sem, Nat.reduceAdd, ↓reduceIte]; rfl) mixed (fun C hP hM hC => ?_)
  have hb : 0 ≤ at' x 0 ∧ at' x 0 < M := by
    have h := hx x[0] (List.getElem_mem _)
    rw [show at' x 0 = x[0] by simp [at', List.getD_eq_getElem?_getD, show 0 < x.length by omega]]
    exact h
  obtain ⟨y, hy⟩ := Int.eq_ofNat_of_zero_le hb.1
  have hU := c_impl_isUnit M y hm2 (by omega)
  have g1 : (0 :: x).getD 1 0 = (y : Int) := by rw [← hy]; rfl
  rw [hy]
  (repeat (first | ((with_reducible refine rgn_cons rfl (fun K hK => ?_)); simp only [go_sem, seval, ↓reduceIte, decide_true, decide_false, Int.le_refl, Int.toNat_zero, List.length_cons, show (0 : Int) < ((x.length + 1 : Nat) : Int) by omega, show (1 : Int) < ((x.length + 1 : Nat) : Int) by omega, intL_getD (0 :: x) 0 (by simp), show (0 :: x).getD 0 0 = 0 from rfl, show ((0 : Int) == 0) = true from rfl, intL_getD (0 :: x) 1 (by simp; omega), g1, show (1 : Int).toNat = 1 from rfl, show (0 : Int) ≤ 1 by omega]; (first | refine hK _ _ _ (by simp only [go_sem, Nat.reduceEqDiff, ↓reduceIte]; rfl) ?_ | refine ⟨_, hU, hK _ _ _ (by simp only [go_sem, Nat.reduceEqDiff, ↓reduceIte]; rfl) ?_⟩); clear hK; clear K) | (with_reducible first | refine rgn_nil (by first | trivial | kernel_rfl) ?_ | refine AWP.seq ?_ | refine tX hC hP (by kernel_rfl) ?_ | refine aX hC hM hP (by kernel_rfl) ?_ | refine AWP.skip ?_ | refine AWP.label ?_ | refine AWP.exit ?_ | refine AWP.block ?_ | refine cTa ?_ | refine cFa ?_) | simp only [qS, Nat.reduceEqDiff, ↓reduceIte]))
  (refine AWP.ret ?_; refine retOk1 (by simp only [go_sem, seval, ↓reduceIte, decide_true, decide_false]; rfl) ?_)
  rfl
end Go.Proofs.Ytahnnangdepkbab
