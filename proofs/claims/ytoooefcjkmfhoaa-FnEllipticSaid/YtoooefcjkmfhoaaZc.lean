/-
  FnElliptic.
-/
import Derived.Test.YtoooefcjkmfhoaaXh
import Derived.Test.YtoooefcjkmfhoaaDq
import Derived.Test.YtoooefcjkmfhoaaBy
import Derived.Test.YtoooefcjkmfhoaaOn
import Derived.Test.YtoooefcjkmfhoaaEl
import Derived.Test.YtoooefcjkmfhoaaOq
import Derived.Test.YtoooefcjkmfhoaaVz
namespace Go.Proofs.Ytoooefcjkmfhoaa
open Go.RowKit
set_option linter.unusedSimpArgs false
set_option linter.unusedVariables false
set_option linter.unusedSectionVars false
set_option maxRecDepth 20000
-- FnElliptic.
theorem pointsC {p a b : Int} (h : codeE p a b = 0) : AFn Try.prog 18 [.int .i64 p, .int .i64 a, .int .i64 b] (.tup [.sl true 37 (rowsO (ptsL p a b)), .int .i64 0]) := by
  have h1 := c_impl_PointsOfCurve_ok p a b h
  rwa [h] at h1
theorem structC (p a b : Int) : AFn Try.prog 16 [.int .i64 p, .int .i64 a, .int .i64 b] (.tup [.int .i64 (stA p a b), .int .i64 (stB p a b), .int .i64 (codeE p a b)]) := by
  by_cases h : codeE p a b = 0
  · have h1 := c_impl_StructureOfCurve_ok p a b h
    rw [stA, stB, if_pos h, if_pos h, h]
    exact h1
  · have h1 := c_impl_StructureOfCurve_no p a b h
    rw [stA, stB, if_neg h, if_neg h]
    exact h1
theorem structS (p a b : Int) : AFn Try.prog 21 [.int .i64 p, .int .i64 a, .int .i64 b] (.tup [.int .i64 (stA p a b), .int .i64 (stB p a b), .int .i64 (codeE p a b)]) := by
  by_cases h : codeE p a b = 0
  · have h1 := c_spec_StructureOfCurve_ok p a b h
    rw [stA, stB, if_pos h, if_pos h, h]
    exact h1
  · have h1 := c_spec_StructureOfCurve_no p a b h
    rw [stA, stB, if_neg h, if_neg h]
    exact h1
set_option maxHeartbeats 16000000 in
theorem c_laws_FnElliptic (a : Option Addr) (c : Nat) (l : List Int) (hlen : l.length ≤ 9223372036854775807) (hx : ∀ x ∈ l, 0 ≤ x ∧ x ≤ 255) : AFn Try.prog 3 [.str (.src a c l)] (.bool true) := by
  refine AFn.of' ttOk (by decide) Try.func3 Try.ntmps3 (by rw [Try.results3]) (by rfl) (by rfl) (by simp) (by decide) (by simp only [go_sem, Nat.reduceAdd, ↓reduceIte]; rfl) mixed (fun C hP hM hC => ?_)
  by_cases hbig : (4096 : Int) < (l.length : Int)
  · have hb := c_laws_big a c l
    rw [decide_eq_true hbig] at hb
    (repeat (first | ((with_reducible refine rgn_cons rfl (fun K hK => ?_)); simp only [go_sem, seval, ↓reduceIte, decide_true, decide_false, hbig, decide_true]; (first | refine hK _ _ _ (by simp only [go_sem, Nat.reduceEqDiff, ↓reduceIte]; rfl) ?_ | refine ⟨_, hb, hK _ _ _ (by simp only [go_sem, Nat.reduceEqDiff, ↓reduceIte]; rfl) ?_⟩); clear hK; clear K) | (with_reducible first | refine rgn_nil (by first | trivial | kernel_rfl) ?_ | refine AWP.seq ?_ | refine tX hC hP (by kernel_rfl) ?_ | refine aX hC hM hP (by kernel_rfl) ?_ | refine AWP.skip ?_ | refine AWP.label ?_ | refine AWP.exit ?_ | refine AWP.block ?_ | refine cTa ?_ | refine cFa ?_) | simp only [qS, Nat.reduceEqDiff, ↓reduceIte]))
    (refine AWP.ret ?_; refine retOk1 (by simp only [go_sem, seval, ↓reduceIte, decide_true, decide_false]; rfl) ?_)
    rfl
  have hb := c_laws_big a c l
  rw [decide_eq_false hbig] at hb
  have hB : Byt l := ⟨by omega, hx⟩
  refine AWP.tailR 11 [(0, ⟨0, .val (.str (.src a c l))⟩)] ?_ (fun R tail => ?_)
  · simp only [dropSeq]
    obtain ⟨p, x, y, hD⟩ := DrawStructureOfCurve_ex (a := a) (c := c) hB
    (repeat (first | ((with_reducible refine rgn_cons rfl (fun K hK => ?_)); simp only [go_sem, seval, ↓reduceIte, decide_true, decide_false]; (first | refine hK _ _ _ (by simp only [go_sem, Nat.reduceEqDiff, ↓reduceIte]; rfl) ?_ | refine ⟨_, hD, hK _ _ _ (by simp only [go_sem, Nat.reduceEqDiff, ↓reduceIte]; rfl) ?_⟩ | refine ⟨_, structC p x y, hK _ _ _ (by simp only [go_sem, Nat.reduceEqDiff, ↓reduceIte]; rfl) ?_⟩ | refine ⟨_, structS p x y, hK _ _ _ (by simp only [go_sem, Nat.reduceEqDiff, ↓reduceIte]; rfl) ?_⟩ | refine ⟨_, c_spec_DrawCountCurveClasses a c l hB, hK _ _ _ (by simp only [go_sem, Nat.reduceEqDiff, ↓reduceIte]; rfl) ?_⟩ | refine ⟨_, c_impl_CountCurveClasses _, hK _ _ _ (by simp only [go_sem, Nat.reduceEqDiff, ↓reduceIte]; rfl) ?_⟩ | refine ⟨_, c_spec_CountCurveClasses _, hK _ _ _ (by simp only [go_sem, Nat.reduceEqDiff, ↓reduceIte]; rfl) ?_⟩); clear hK; clear K) | (with_reducible first | refine rgn_nil (by first | trivial | kernel_rfl) ?_ | refine AWP.seq ?_ | refine tX hC hP (by kernel_rfl) ?_ | refine aX hC hM hP (by kernel_rfl) ?_ | refine AWP.skip ?_ | refine AWP.label ?_ | refine AWP.exit ?_ | refine AWP.block ?_ | refine cTa ?_ | refine cFa ?_) | simp only [qS, Nat.reduceEqDiff, ↓reduceIte]))
    (refine AWP.ret ?_; refine retOk1 (by simp only [go_sem, seval, ↓reduceIte, decide_true, decide_false]; rfl) ?_)
    simp
  · simp only [putSeq]
    obtain ⟨p, x, y, hD⟩ := DrawTraceOf_ex (a := a) (c := c) hB
    by_cases hc : codeE p x y = 0
    · obtain ⟨hf, h5, h97, _⟩ := codeE_zero hc
      obtain ⟨n, hn⟩ : ∃ n, (ptsL p x y).length = n := ⟨_, rfl⟩
      obtain ⟨M, hMk⟩ : ∃ M, mostN p x (ptsL p x y) n = M := ⟨_, rfl⟩
      obtain ⟨s1, s2, s3, s4, s5, s6⟩ := struct_facts hc n M hn hMk
      obtain ⟨X, hX⟩ : ∃ X, n / M = X := ⟨_, rfl⟩
      rw [hX] at s2 s3 s4
      have hh := hasse_trace hc
      obtain ⟨t1, t2, t3⟩ := tw_facts hc
      obtain ⟨n', hn'⟩ : ∃ n', (ptsL p (twA p x y) (twB p x y)).length = n' := ⟨_, rfl⟩
      obtain ⟨tr, hT⟩ : ∃ tr : Int, p + 1 - (n : Int) = tr := ⟨_, rfl⟩
      have hb2 : 0 ≤ hasseR p x y ∧ hasseR p x y < p := by rw [hasseR, if_pos hc]; exact emod_b _ _ (by omega)
      rw [hn, hT] at hh
      rw [hn, hn'] at t2
      rw [hT] at s1
      have kT := c_impl_TraceOf p x y
      have kT' := c_spec_TraceOf p x y
      rw [traceR, if_pos hc, hn, hT, hc] at kT kT'
      have cT2 := c_impl_TraceOf p (twA p x y) (twB p x y)
      rw [traceR, if_pos t1, hn', t1, show p + 1 - (n' : Int) = -tr by omega] at cT2
      have cH := c_impl_HasseCoefficient p x y
      have cH' := c_spec_HasseCoefficient p x y
      rw [hc] at cH cH'
      have cN := c_impl_CountPoints p x y
      have cN' := c_spec_CountPoints p x y
      rw [countR, if_pos hc, hn, hc] at cN cN'
      have cW := c_impl_TwistOfCurve p x y
      rw [hc] at cW
      have cS := structC p x y
      rw [stA, stB, if_pos hc, if_pos hc, hc, hn, hMk, hX] at cS
      have cU := c_impl_IsSupersingular p x y
      rw [show superR p x y = (hasseR p x y == 0) by simp [superR, hc], hc] at cU
      have cP := pointsC hc
      have cJ := c_impl_InvariantOfCurve p x y
      rw [hc] at cJ
      have cJ2 := c_impl_InvariantOfCurve p (twA p x y) (twB p x y)
      rw [t1, t3] at cJ2
      have hsq : 0 ≤ tr * tr := by
        rcases Int.le_total 0 tr with g | g
        · exact Int.mul_nonneg g g
        · have := Int.mul_nonneg (show 0 ≤ -tr by omega) (show 0 ≤ -tr by omega)
          rwa [Int.neg_mul_neg] at this
      have hXM : (X : Int) * (M : Int) = (n : Int) := by rw [← Int.natCast_mul, s2]
      have hrem : (M : Int).tmod (X : Int) = 0 := by
        rw [tm _ _ (by omega), ← Int.natCast_emod, s4]; rfl
      have hrem2 : (tr - hasseR p x y).tmod p = 0 := Int.tmod_eq_zero_of_dvd (Int.dvd_of_emod_eq_zero hh)
      (repeat (first | ((with_reducible refine rgn_cons rfl (fun K hK => ?_)); simp only [go_sem, seval, ↓reduceIte, decide_true, decide_false, hbig, decide_false, wid (tr * tr) (by omega) (by omega), wid (4 * p) (by omega) (by omega), show ¬ (4 * p < tr * tr) by omega, wid (tr - hasseR p x y) (by omega) (by omega), hrem2, show p ≠ 0 by omega, Int.zero_sub, wid (-tr) (by omega) (by omega), hXM, wid (n : Int) (by omega) (by omega), show ¬ ((X : Int) < 1) by omega, show (X : Int) ≠ 0 by omega, hrem, hn, wid (p + 1) (by omega) (by omega), hT, wid tr (by omega) (by omega), bne_self_eq_false]; (first | refine hK _ _ _ (by simp only [go_sem, Nat.reduceEqDiff, ↓reduceIte]; rfl) ?_ | refine ⟨_, hb, hK _ _ _ (by simp only [go_sem, Nat.reduceEqDiff, ↓reduceIte]; rfl) ?_⟩ | refine ⟨_, hD, hK _ _ _ (by simp only [go_sem, Nat.reduceEqDiff, ↓reduceIte]; rfl) ?_⟩ | refine ⟨_, kT, hK _ _ _ (by simp only [go_sem, Nat.reduceEqDiff, ↓reduceIte]; rfl) ?_⟩ | refine ⟨_, kT', hK _ _ _ (by simp only [go_sem, Nat.reduceEqDiff, ↓reduceIte]; rfl) ?_⟩ | refine ⟨_, cH, hK _ _ _ (by simp only [go_sem, Nat.reduceEqDiff, ↓reduceIte]; rfl) ?_⟩ | refine ⟨_, cH', hK _ _ _ (by simp only [go_sem, Nat.reduceEqDiff, ↓reduceIte]; rfl) ?_⟩ | refine ⟨_, cN, hK _ _ _ (by simp only [go_sem, Nat.reduceEqDiff, ↓reduceIte]; rfl) ?_⟩ | refine ⟨_, cN', hK _ _ _ (by simp only [go_sem, Nat.reduceEqDiff, ↓reduceIte]; rfl) ?_⟩ | refine ⟨_, c_impl_IsEllipticCurve p x y, hK _ _ _ (by simp only [go_sem, Nat.reduceEqDiff, ↓reduceIte]; rfl) ?_⟩ | refine ⟨_, c_spec_IsEllipticCurve p x y, hK _ _ _ (by simp only [go_sem, Nat.reduceEqDiff, ↓reduceIte]; rfl) ?_⟩ | refine ⟨_, cW, hK _ _ _ (by simp only [go_sem, Nat.reduceEqDiff, ↓reduceIte]; rfl) ?_⟩ | refine ⟨_, cT2, hK _ _ _ (by simp only [go_sem, Nat.reduceEqDiff, ↓reduceIte]; rfl) ?_⟩ | refine ⟨_, cS, hK _ _ _ (by simp only [go_sem, Nat.reduceEqDiff, ↓reduceIte]; rfl) ?_⟩ | refine ⟨_, cU, hK _ _ _ (by simp only [go_sem, Nat.reduceEqDiff, ↓reduceIte]; rfl) ?_⟩ | refine ⟨_, cP, hK _ _ _ (by simp only [go_sem, Nat.reduceEqDiff, ↓reduceIte]; rfl) ?_⟩ | refine ⟨_, cJ, hK _ _ _ (by simp only [go_sem, Nat.reduceEqDiff, ↓reduceIte]; rfl) ?_⟩ | refine ⟨_, cJ2, hK _ _ _ (by simp only [go_sem, Nat.reduceEqDiff, ↓reduceIte]; rfl) ?_⟩); clear hK; clear K) | (with_reducible first | refine tXa hC hP (by simp only [List.append]; with_reducible rfl) (by kernel_rfl) ?_ | refine rgn_nil (by first | trivial | kernel_rfl) ?_ | refine AWP.seq ?_ | refine tX hC hP (by kernel_rfl) ?_ | refine aX hC hM hP (by kernel_rfl) ?_ | refine AWP.skip ?_ | refine AWP.label ?_ | refine AWP.exit ?_ | refine AWP.block ?_ | refine cTa ?_ | refine cFa ?_) | simp only [qS, Nat.reduceEqDiff, ↓reduceIte]))
      refine AWP.sub ?_ (by rfl) tail
      simp [Sub, lk]
    · (repeat (first | ((with_reducible refine rgn_cons rfl (fun K hK => ?_)); simp only [go_sem, seval, ↓reduceIte, decide_true, decide_false, hbig, decide_false, beqF hc]; (first | refine hK _ _ _ (by simp only [go_sem, Nat.reduceEqDiff, ↓reduceIte]; rfl) ?_ | refine ⟨_, hb, hK _ _ _ (by simp only [go_sem, Nat.reduceEqDiff, ↓reduceIte]; rfl) ?_⟩ | refine ⟨_, hD, hK _ _ _ (by simp only [go_sem, Nat.reduceEqDiff, ↓reduceIte]; rfl) ?_⟩ | refine ⟨_, c_impl_TraceOf p x y, hK _ _ _ (by simp only [go_sem, Nat.reduceEqDiff, ↓reduceIte]; rfl) ?_⟩ | refine ⟨_, c_spec_TraceOf p x y, hK _ _ _ (by simp only [go_sem, Nat.reduceEqDiff, ↓reduceIte]; rfl) ?_⟩ | refine ⟨_, c_impl_HasseCoefficient p x y, hK _ _ _ (by simp only [go_sem, Nat.reduceEqDiff, ↓reduceIte]; rfl) ?_⟩ | refine ⟨_, c_spec_HasseCoefficient p x y, hK _ _ _ (by simp only [go_sem, Nat.reduceEqDiff, ↓reduceIte]; rfl) ?_⟩ | refine ⟨_, c_impl_CountPoints p x y, hK _ _ _ (by simp only [go_sem, Nat.reduceEqDiff, ↓reduceIte]; rfl) ?_⟩ | refine ⟨_, c_spec_CountPoints p x y, hK _ _ _ (by simp only [go_sem, Nat.reduceEqDiff, ↓reduceIte]; rfl) ?_⟩ | refine ⟨_, c_impl_IsEllipticCurve p x y, hK _ _ _ (by simp only [go_sem, Nat.reduceEqDiff, ↓reduceIte]; rfl) ?_⟩ | refine ⟨_, c_spec_IsEllipticCurve p x y, hK _ _ _ (by simp only [go_sem, Nat.reduceEqDiff, ↓reduceIte]; rfl) ?_⟩); clear hK; clear K) | (with_reducible first | refine rgn_nil (by first | trivial | kernel_rfl) ?_ | refine AWP.seq ?_ | refine tX hC hP (by kernel_rfl) ?_ | refine aX hC hM hP (by kernel_rfl) ?_ | refine AWP.skip ?_ | refine AWP.label ?_ | refine AWP.exit ?_ | refine AWP.block ?_ | refine cTa ?_ | refine cFa ?_) | simp only [qS, Nat.reduceEqDiff, ↓reduceIte]))
      refine AWP.sub ?_ (by rfl) tail
      simp [Sub, lk]
end Go.Proofs.Ytoooefcjkmfhoaa
