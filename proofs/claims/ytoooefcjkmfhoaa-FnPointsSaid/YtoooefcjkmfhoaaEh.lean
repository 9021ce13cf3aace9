/-
  Isomorphic curves.
-/
import Derived.Test.YtoooefcjkmfhoaaEd
namespace Go.Proofs.Ytoooefcjkmfhoaa
open Go.RowKit
set_option linter.unusedSimpArgs false
set_option linter.unusedVariables false
set_option linter.unusedSectionVars false
set_option maxRecDepth 20000
-- Isomorphic curves.
def isoS (p a b c d u : Int) : Bool := (a * (u ^ 4 % p) % p == c) && (b * (u ^ 6 % p) % p == d)
def isoR (p a b c d : Int) : Bool := (List.range p.toNat).any fun u => decide (1 ≤ u) && isoS p a b c d (u : Int)
theorem isoR_true {p a b c d : Int} {u : Nat} (h1 : 1 ≤ u) (h2 : (u : Int) < p) (h : isoS p a b c d (u : Int) = true) : isoR p a b c d = true := by
  unfold isoR
  rw [List.any_eq_true]
  exact ⟨u, List.mem_range.2 (by omega), by simp [h1, h]⟩
theorem isoR_false {p a b c d : Int} (h : ∀ u : Nat, 1 ≤ u → (u : Int) < p → isoS p a b c d (u : Int) = false) : isoR p a b c d = false := by
  unfold isoR
  rw [List.any_eq_false]
  intro u hu
  have hu2 := List.mem_range.1 hu
  by_cases h1 : 1 ≤ u
  · simp [h1, h u h1 (by omega)]
  · simp [h1]
set_option maxHeartbeats 1000000 in
theorem c_spec_l18Alike (p a b c d : Int) (h5 : 5 ≤ p) (h97 : p ≤ 97) (ha : 0 ≤ a) (ha2 : a < p) (hb : 0 ≤ b) (hb2 : b < p) : AFn Try.prog 64 [.int .i64 p, .int .i64 a, .int .i64 b, .int .i64 c, .int .i64 d] (.bool (isoR p a b c d)) := by
  refine AFn.of' ttOk (by decide) Try.func64 Try.ntmps64 (by rw [Try.results64]) (by rfl) (by rfl) (by simp) (by decide) (by simp only [go_sem, Nat.reduceAdd, ↓reduceIte]; rfl) mixed (fun C hP hM hC => ?_)
  (repeat (first | ((with_reducible refine rgn_cons rfl (fun K hK => ?_)); simp only [go_sem, seval, ↓reduceIte, decide_true, decide_false]; (refine hK _ _ _ (by simp only [go_sem, Nat.reduceEqDiff, ↓reduceIte]; rfl) ?_); clear hK; clear K) | (with_reducible first | refine rgn_nil (by first | trivial | kernel_rfl) ?_ | refine AWP.seq ?_ | refine tX hC hP (by kernel_rfl) ?_ | refine aX hC hM hP (by kernel_rfl) ?_ | refine AWP.skip ?_ | refine AWP.label ?_ | refine AWP.exit ?_ | refine AWP.block ?_ | refine cTa ?_ | refine cFa ?_) | simp only [qS, Nat.reduceEqDiff, ↓reduceIte]))
  refine AWP.loop (fun u : Nat => [(11, ⟨0, .val (.int .i64 u)⟩), (0, ⟨0, .val (.int .i64 p)⟩), (1, ⟨0, .val (.int .i64 a)⟩), (2, ⟨0, .val (.int .i64 b)⟩), (3, ⟨0, .val (.int .i64 c)⟩), (4, ⟨0, .val (.int .i64 d)⟩)]) (fun u => 1 ≤ u ∧ u ≤ 97 ∧ ∀ e : Nat, 1 ≤ e → e < u → isoS p a b c d (e : Int) = false) (fun u => 98 - u) 1 ⟨by omega, by omega, fun e h1 h2 => by omega⟩ (fun i => rfl) ?_ (fun u hu => ?_)
  · simp [Sub, lk]
  · by_cases hlt : (u : Int) < p
    · have e4 := emod_b ((u : Int) ^ 4) p (by omega)
      have e6 := emod_b ((u : Int) ^ 6) p (by omega)
      have m4 := small_mul h97 ha ha2 e4.1 e4.2
      have m6 := small_mul h97 hb hb2 e6.1 e6.2
      have hA := c_spec_l01Pow p (u : Int) 4 (by omega) (by omega) (by omega)
      have hB := c_spec_l01Pow p (u : Int) 6 (by omega) (by omega) (by omega)
      by_cases h1 : a * ((u : Int) ^ 4 % p) % p = c
      · by_cases h2 : b * ((u : Int) ^ 6 % p) % p = d
        · (repeat (first | ((with_reducible refine rgn_cons rfl (fun K hK => ?_)); simp only [go_sem, seval, ↓reduceIte, decide_true, decide_false, hlt, show p ≠ 0 by omega, wid (a * ((u : Int) ^ 4 % p)) (by omega) (by omega), tm (a * ((u : Int) ^ 4 % p)) p (by omega), wid (b * ((u : Int) ^ 6 % p)) (by omega) (by omega), tm (b * ((u : Int) ^ 6 % p)) p (by omega), h1, h2]; (first | refine hK _ _ _ (by simp only [go_sem, Nat.reduceEqDiff, ↓reduceIte]; rfl) ?_ | refine ⟨_, hA, hK _ _ _ (by simp only [go_sem, Nat.reduceEqDiff, ↓reduceIte]; rfl) ?_⟩ | refine ⟨_, hB, hK _ _ _ (by simp only [go_sem, Nat.reduceEqDiff, ↓reduceIte]; rfl) ?_⟩); clear hK; clear K) | (with_reducible first | refine rgn_nil (by first | trivial | kernel_rfl) ?_ | refine AWP.seq ?_ | refine tX hC hP (by kernel_rfl) ?_ | refine aX hC hM hP (by kernel_rfl) ?_ | refine AWP.skip ?_ | refine AWP.label ?_ | refine AWP.exit ?_ | refine AWP.block ?_ | refine cTa ?_ | refine cFa ?_) | simp only [qS, Nat.reduceEqDiff, ↓reduceIte]))
          (refine AWP.ret ?_; refine retOk1 (by simp only [go_sem, seval, ↓reduceIte, decide_true, decide_false]; rfl) ?_)
          rw [isoR_true hu.1 hlt (by simp [isoS, h1, h2])]
        · (repeat (first | ((with_reducible refine rgn_cons rfl (fun K hK => ?_)); simp only [go_sem, seval, ↓reduceIte, decide_true, decide_false, hlt, show p ≠ 0 by omega, wid (a * ((u : Int) ^ 4 % p)) (by omega) (by omega), tm (a * ((u : Int) ^ 4 % p)) p (by omega), wid (b * ((u : Int) ^ 6 % p)) (by omega) (by omega), tm (b * ((u : Int) ^ 6 % p)) p (by omega), h1, show (b * ((u : Int) ^ 6 % p) % p == d) = false by simpa using h2, wid ((u : Int) + 1) (by omega) (by omega)]; (first | refine hK _ _ _ (by simp only [go_sem, Nat.reduceEqDiff, ↓reduceIte]; rfl) ?_ | refine ⟨_, hA, hK _ _ _ (by simp only [go_sem, Nat.reduceEqDiff, ↓reduceIte]; rfl) ?_⟩ | refine ⟨_, hB, hK _ _ _ (by simp only [go_sem, Nat.reduceEqDiff, ↓reduceIte]; rfl) ?_⟩); clear hK; clear K) | (with_reducible first | refine rgn_nil (by first | trivial | kernel_rfl) ?_ | refine AWP.seq ?_ | refine tX hC hP (by kernel_rfl) ?_ | refine aX hC hM hP (by kernel_rfl) ?_ | refine AWP.skip ?_ | refine AWP.label ?_ | refine AWP.exit ?_ | refine AWP.block ?_ | refine cTa ?_ | refine cFa ?_) | simp only [qS, Nat.reduceEqDiff, ↓reduceIte]))
          refine ⟨u + 1, ⟨by omega, by omega, fun e q1 q2 => ?_⟩, by omega, by simp [Sub, lk]⟩
          by_cases e1 : e = u
          · subst e1; simp [isoS, h2]
          · exact hu.2.2 e q1 (by omega)
      · (repeat (first | ((with_reducible refine rgn_cons rfl (fun K hK => ?_)); simp only [go_sem, seval, ↓reduceIte, decide_true, decide_false, hlt, show p ≠ 0 by omega, wid (a * ((u : Int) ^ 4 % p)) (by omega) (by omega), tm (a * ((u : Int) ^ 4 % p)) p (by omega), show (a * ((u : Int) ^ 4 % p) % p == c) = false by simpa using h1, wid ((u : Int) + 1) (by omega) (by omega)]; (first | refine hK _ _ _ (by simp only [go_sem, Nat.reduceEqDiff, ↓reduceIte]; rfl) ?_ | refine ⟨_, hA, hK _ _ _ (by simp only [go_sem, Nat.reduceEqDiff, ↓reduceIte]; rfl) ?_⟩ | refine ⟨_, hB, hK _ _ _ (by simp only [go_sem, Nat.reduceEqDiff, ↓reduceIte]; rfl) ?_⟩); clear hK; clear K) | (with_reducible first | refine rgn_nil (by first | trivial | kernel_rfl) ?_ | refine AWP.seq ?_ | refine tX hC hP (by kernel_rfl) ?_ | refine aX hC hM hP (by kernel_rfl) ?_ | refine AWP.skip ?_ | refine AWP.label ?_ | refine AWP.exit ?_ | refine AWP.block ?_ | refine cTa ?_ | refine cFa ?_) | simp only [qS, Nat.reduceEqDiff, ↓reduceIte]))
        refine ⟨u + 1, ⟨by omega, by omega, fun e q1 q2 => ?_⟩, by omega, by simp [Sub, lk]⟩
        by_cases e1 : e = u
        · subst e1; simp [isoS, h1]
        · exact hu.2.2 e q1 (by omega)
    · (repeat (first | ((with_reducible refine rgn_cons rfl (fun K hK => ?_)); simp only [go_sem, seval, ↓reduceIte, decide_true, decide_false, hlt, decide_false]; (refine hK _ _ _ (by simp only [go_sem, Nat.reduceEqDiff, ↓reduceIte]; rfl) ?_); clear hK; clear K) | (with_reducible first | refine rgn_nil (by first | trivial | kernel_rfl) ?_ | refine AWP.seq ?_ | refine tX hC hP (by kernel_rfl) ?_ | refine aX hC hM hP (by kernel_rfl) ?_ | refine AWP.skip ?_ | refine AWP.label ?_ | refine AWP.exit ?_ | refine AWP.block ?_ | refine cTa ?_ | refine cFa ?_) | simp only [qS, Nat.reduceEqDiff, ↓reduceIte]))
      (refine AWP.ret ?_; refine retOk1 (by simp only [go_sem, seval, ↓reduceIte, decide_true, decide_false]; rfl) ?_)
      rw [isoR_false (fun e q1 q2 => hu.2.2 e q1 (by omega))]
/-- The code for two curves. -/
def codeI (p a b c d : Int) : Int := if fieldB p = true then (if codeE p a b = 2 ∨ codeE p c d = 2 then 2 else if codeE p a b ≠ 0 ∨ codeE p c d ≠ 0 then 1 else 0) else 1
def isoQ (p a b c d : Int) : Bool := decide (codeI p a b c d = 0) && isoR p a b c d
theorem codeE_nofield {p a b : Int} (h : fieldB p = false) : codeE p a b = 1 := by simp [codeE, h]
theorem codeE_cases (p a b : Int) : codeE p a b = 0 ∨ codeE p a b = 1 ∨ codeE p a b = 2 := by
  unfold codeE
  split
  · split
    · split <;> simp
    · simp
  · simp
set_option maxHeartbeats 1000000 in
theorem c_spec_AreIsomorphicCurves (p a b c d : Int) : AFn Try.prog 35 [.int .i64 p, .int .i64 a, .int .i64 b, .int .i64 c, .int .i64 d] (.tup [.bool (isoQ p a b c d), .int .i64 (codeI p a b c d)]) := by
  refine AFn.of' ttOk (by decide) Try.func35 Try.ntmps35 (by rw [Try.results35]) (by rfl) (by rfl) (by simp) (by decide) (by simp only [go_sem, Nat.reduceAdd, ↓reduceIte]; rfl) mixed (fun C hP hM hC => ?_)
  have hA := c_spec_l18Code p a b
  have hB := c_spec_l18Code p c d
  have hF := c_spec_l18Field p
  cases hf : fieldB p with
  | false =>
    rw [codeE_nofield hf] at hA hB
    rw [hf] at hF
    (repeat (first | ((with_reducible refine rgn_cons rfl (fun K hK => ?_)); simp only [go_sem, seval, ↓reduceIte, decide_true, decide_false]; (first | refine hK _ _ _ (by simp only [go_sem, Nat.reduceEqDiff, ↓reduceIte]; rfl) ?_ | refine ⟨_, hA, hK _ _ _ (by simp only [go_sem, Nat.reduceEqDiff, ↓reduceIte]; rfl) ?_⟩ | refine ⟨_, hB, hK _ _ _ (by simp only [go_sem, Nat.reduceEqDiff, ↓reduceIte]; rfl) ?_⟩ | refine ⟨_, hF, hK _ _ _ (by simp only [go_sem, Nat.reduceEqDiff, ↓reduceIte]; rfl) ?_⟩); clear hK; clear K) | (with_reducible first | refine rgn_nil (by first | trivial | kernel_rfl) ?_ | refine AWP.seq ?_ | refine tX hC hP (by kernel_rfl) ?_ | refine aX hC hM hP (by kernel_rfl) ?_ | refine AWP.skip ?_ | refine AWP.label ?_ | refine AWP.exit ?_ | refine AWP.block ?_ | refine cTa ?_ | refine cFa ?_) | simp only [qS, Nat.reduceEqDiff, ↓reduceIte]))
    (refine AWP.ret ?_; refine retOk2 (by simp only [go_sem, seval, ↓reduceIte, decide_true, decide_false]; rfl) (by simp only [go_sem, seval, ↓reduceIte, decide_true, decide_false]; rfl) (by simp) ?_)
    simp [isoQ, codeI, hf]
  | true =>
    rw [hf] at hF
    rcases codeE_cases p a b with h1 | h1 | h1 <;> rcases codeE_cases p c d with h2 | h2 | h2
    · obtain ⟨h5, h97, ha, ha2, hb, hb2⟩ := CurveOk.of h1
      rw [h1] at hA
      rw [h2] at hB
      (repeat (first | ((with_reducible refine rgn_cons rfl (fun K hK => ?_)); simp only [go_sem, seval, ↓reduceIte, decide_true, decide_false]; (first | refine hK _ _ _ (by simp only [go_sem, Nat.reduceEqDiff, ↓reduceIte]; rfl) ?_ | refine ⟨_, hA, hK _ _ _ (by simp only [go_sem, Nat.reduceEqDiff, ↓reduceIte]; rfl) ?_⟩ | refine ⟨_, hB, hK _ _ _ (by simp only [go_sem, Nat.reduceEqDiff, ↓reduceIte]; rfl) ?_⟩ | refine ⟨_, hF, hK _ _ _ (by simp only [go_sem, Nat.reduceEqDiff, ↓reduceIte]; rfl) ?_⟩ | refine ⟨_, c_spec_l18Alike p a b c d h5 h97 ha ha2 hb hb2, hK _ _ _ (by simp only [go_sem, Nat.reduceEqDiff, ↓reduceIte]; rfl) ?_⟩); clear hK; clear K) | (with_reducible first | refine rgn_nil (by first | trivial | kernel_rfl) ?_ | refine AWP.seq ?_ | refine tX hC hP (by kernel_rfl) ?_ | refine aX hC hM hP (by kernel_rfl) ?_ | refine AWP.skip ?_ | refine AWP.label ?_ | refine AWP.exit ?_ | refine AWP.block ?_ | refine cTa ?_ | refine cFa ?_) | simp only [qS, Nat.reduceEqDiff, ↓reduceIte]))
      (refine AWP.ret ?_; refine retOk2 (by simp only [go_sem, seval, ↓reduceIte, decide_true, decide_false]; rfl) (by simp only [go_sem, seval, ↓reduceIte, decide_true, decide_false]; rfl) (by simp) ?_)
      simp [isoQ, codeI, hf, h1, h2]
    all_goals
      rw [h1] at hA
      rw [h2] at hB
      (repeat (first | ((with_reducible refine rgn_cons rfl (fun K hK => ?_)); simp only [go_sem, seval, ↓reduceIte, decide_true, decide_false]; (first | refine hK _ _ _ (by simp only [go_sem, Nat.reduceEqDiff, ↓reduceIte]; rfl) ?_ | refine ⟨_, hA, hK _ _ _ (by simp only [go_sem, Nat.reduceEqDiff, ↓reduceIte]; rfl) ?_⟩ | refine ⟨_, hB, hK _ _ _ (by simp only [go_sem, Nat.reduceEqDiff, ↓reduceIte]; rfl) ?_⟩ | refine ⟨_, hF, hK _ _ _ (by simp only [go_sem, Nat.reduceEqDiff, ↓reduceIte]; rfl) ?_⟩); clear hK; clear K) | (with_reducible first | refine rgn_nil (by first | trivial | kernel_rfl) ?_ | refine AWP.seq ?_ | refine tX hC hP (by kernel_rfl) ?_ | refine aX hC hM hP (by kernel_rfl) ?_ | refine AWP.skip ?_ | refine AWP.label ?_ | refine AWP.exit ?_ | refine AWP.block ?_ | refine cTa ?_ | refine cFa ?_) | simp only [qS, Nat.reduceEqDiff, ↓reduceIte]))
      (refine AWP.ret ?_; refine retOk2 (by simp only [go_sem, seval, ↓reduceIte, decide_true, decide_false]; rfl) (by simp only [go_sem, seval, ↓reduceIte, decide_true, decide_false]; rfl) (by simp) ?_)
      simp [isoQ, codeI, hf, h1, h2]
set_option maxHeartbeats 1000000 in
theorem c_impl_AreIsomorphicCurves (p a b c d : Int) : AFn Try.prog 34 [.int .i64 p, .int .i64 a, .int .i64 b, .int .i64 c, .int .i64 d] (.tup [.bool (isoQ p a b c d), .int .i64 (codeI p a b c d)]) := by
  refine AFn.of' ttOk (by decide) Try.func34 Try.ntmps34 (by rw [Try.results34]) (by rfl) (by rfl) (by simp) (by decide) (by simp only [go_sem, Nat.reduceAdd, ↓reduceIte]; rfl) mixed (fun C hP hM hC => ?_)
  have hA := c_impl_curveAt_nil p a b
  have hB := c_impl_curveAt_nil p c d
  have hF := c_impl_isField p
  cases hf : fieldB p with
  | false =>
    rw [codeE_nofield hf] at hA hB
    rw [hf] at hF
    (repeat (first | ((with_reducible refine rgn_cons rfl (fun K hK => ?_)); simp only [go_sem, seval, ↓reduceIte, decide_true, decide_false]; (first | refine hK _ _ _ (by simp only [go_sem, Nat.reduceEqDiff, ↓reduceIte]; rfl) ?_ | refine ⟨_, hA, hK _ _ _ (by simp only [go_sem, Nat.reduceEqDiff, ↓reduceIte]; rfl) ?_⟩ | refine ⟨_, hB, hK _ _ _ (by simp only [go_sem, Nat.reduceEqDiff, ↓reduceIte]; rfl) ?_⟩ | refine ⟨_, hF, hK _ _ _ (by simp only [go_sem, Nat.reduceEqDiff, ↓reduceIte]; rfl) ?_⟩); clear hK; clear K) | (with_reducible first | refine rgn_nil (by first | trivial | kernel_rfl) ?_ | refine AWP.seq ?_ | refine tX hC hP (by kernel_rfl) ?_ | refine aX hC hM hP (by kernel_rfl) ?_ | refine AWP.skip ?_ | refine AWP.label ?_ | refine AWP.exit ?_ | refine AWP.block ?_ | refine cTa ?_ | refine cFa ?_) | simp only [qS, Nat.reduceEqDiff, ↓reduceIte]))
    (refine AWP.ret ?_; refine retOk2 (by simp only [go_sem, seval, ↓reduceIte, decide_true, decide_false]; rfl) (by simp only [go_sem, seval, ↓reduceIte, decide_true, decide_false]; rfl) (by simp) ?_)
    simp [isoQ, codeI, hf]
  | true =>
    rw [hf] at hF
    rcases codeE_cases p a b with h1 | h1 | h1 <;> rcases codeE_cases p c d with h2 | h2 | h2
    · obtain ⟨h5, h97, ha, ha2, hb, hb2⟩ := CurveOk.of h1
      have e0 : isoQ p a b c d = isoR p a b c d := by simp [isoQ, codeI, hf, h1, h2]
      have e1 : codeI p a b c d = 0 := by simp [codeI, hf, h1, h2]
      rw [e0, e1]
      rw [h1] at hA
      rw [h2] at hB
      (repeat (first | ((with_reducible refine rgn_cons rfl (fun K hK => ?_)); simp only [go_sem, seval, ↓reduceIte, decide_true, decide_false]; (first | refine hK _ _ _ (by simp only [go_sem, Nat.reduceEqDiff, ↓reduceIte]; rfl) ?_ | refine ⟨_, hA, hK _ _ _ (by simp only [go_sem, Nat.reduceEqDiff, ↓reduceIte]; rfl) ?_⟩ | refine ⟨_, hB, hK _ _ _ (by simp only [go_sem, Nat.reduceEqDiff, ↓reduceIte]; rfl) ?_⟩ | refine ⟨_, hF, hK _ _ _ (by simp only [go_sem, Nat.reduceEqDiff, ↓reduceIte]; rfl) ?_⟩); clear hK; clear K) | (with_reducible first | refine rgn_nil (by first | trivial | kernel_rfl) ?_ | refine AWP.seq ?_ | refine tX hC hP (by kernel_rfl) ?_ | refine aX hC hM hP (by kernel_rfl) ?_ | refine AWP.skip ?_ | refine AWP.label ?_ | refine AWP.exit ?_ | refine AWP.block ?_ | refine cTa ?_ | refine cFa ?_) | simp only [qS, Nat.reduceEqDiff, ↓reduceIte]))
      refine AWP.loop (fun u : Nat => [(16, ⟨0, .val (.int .i64 u)⟩), (0, ⟨0, .val (.int .i64 p)⟩), (1, ⟨0, .val (.int .i64 a)⟩), (2, ⟨0, .val (.int .i64 b)⟩), (3, ⟨0, .val (.int .i64 c)⟩), (4, ⟨0, .val (.int .i64 d)⟩)]) (fun u => 1 ≤ u ∧ u ≤ 97 ∧ ∀ e : Nat, 1 ≤ e → e < u → isoS p a b c d (e : Int) = false) (fun u => 98 - u) 1 ⟨by omega, by omega, fun e h1 h2 => by omega⟩ (fun i => rfl) ?_ (fun u hu => ?_)
      · simp [Sub, lk]
      · by_cases hlt : (u : Int) < p
        · have e4 := emod_b ((u : Int) ^ 4) p (by omega)
          have e6 := emod_b ((u : Int) ^ 6) p (by omega)
          have m4 := small_mul h97 ha ha2 e4.1 e4.2
          have m6 := small_mul h97 hb hb2 e6.1 e6.2
          have hA := c_impl_power p (u : Int) 4 (by omega) (by omega) (by omega) hlt (by omega)
          have hB := c_impl_power p (u : Int) 6 (by omega) (by omega) (by omega) hlt (by omega)
          by_cases h1 : c = a * ((u : Int) ^ 4 % p) % p
          · by_cases h2 : d = b * ((u : Int) ^ 6 % p) % p
            · (repeat (first | ((with_reducible refine rgn_cons rfl (fun K hK => ?_)); simp only [go_sem, seval, ↓reduceIte, decide_true, decide_false, hlt, show p ≠ 0 by omega, wid (a * ((u : Int) ^ 4 % p)) (by omega) (by omega), tm (a * ((u : Int) ^ 4 % p)) p (by omega), wid (b * ((u : Int) ^ 6 % p)) (by omega) (by omega), tm (b * ((u : Int) ^ 6 % p)) p (by omega), show (c == a * ((u : Int) ^ 4 % p) % p) = true by simpa using h1, show (d == b * ((u : Int) ^ 6 % p) % p) = true by simpa using h2]; (first | refine hK _ _ _ (by simp only [go_sem, Nat.reduceEqDiff, ↓reduceIte]; rfl) ?_ | refine ⟨_, hA, hK _ _ _ (by simp only [go_sem, Nat.reduceEqDiff, ↓reduceIte]; rfl) ?_⟩ | refine ⟨_, hB, hK _ _ _ (by simp only [go_sem, Nat.reduceEqDiff, ↓reduceIte]; rfl) ?_⟩); clear hK; clear K) | (with_reducible first | refine rgn_nil (by first | trivial | kernel_rfl) ?_ | refine AWP.seq ?_ | refine tX hC hP (by kernel_rfl) ?_ | refine aX hC hM hP (by kernel_rfl) ?_ | refine AWP.skip ?_ | refine AWP.label ?_ | refine AWP.exit ?_ | refine AWP.block ?_ | refine cTa ?_ | refine cFa ?_) | simp only [qS, Nat.reduceEqDiff, ↓reduceIte]))
              (refine AWP.ret ?_; refine retOk2 (by simp only [go_sem, seval, ↓reduceIte, decide_true, decide_false]; rfl) (by simp only [go_sem, seval, ↓reduceIte, decide_true, decide_false]; rfl) (by simp) ?_)
              rw [isoR_true hu.1 hlt (by simp [isoS, ← h1, ← h2])]
            · (repeat (first | ((with_reducible refine rgn_cons rfl (fun K hK => ?_)); simp only [go_sem, seval, ↓reduceIte, decide_true, decide_false, hlt, show p ≠ 0 by omega, wid (a * ((u : Int) ^ 4 % p)) (by omega) (by omega), tm (a * ((u : Int) ^ 4 % p)) p (by omega), wid (b * ((u : Int) ^ 6 % p)) (by omega) (by omega), tm (b * ((u : Int) ^ 6 % p)) p (by omega), show (c == a * ((u : Int) ^ 4 % p) % p) = true by simpa using h1, show (d == b * ((u : Int) ^ 6 % p) % p) = false by simpa using h2, wid ((u : Int) + 1) (by omega) (by omega)]; (first | refine hK _ _ _ (by simp only [go_sem, Nat.reduceEqDiff, ↓reduceIte]; rfl) ?_ | refine ⟨_, hA, hK _ _ _ (by simp only [go_sem, Nat.reduceEqDiff, ↓reduceIte]; rfl) ?_⟩ | refine ⟨_, hB, hK _ _ _ (by simp only [go_sem, Nat.reduceEqDiff, ↓reduceIte]; rfl) ?_⟩); clear hK; clear K) | (with_reducible first | refine rgn_nil (by first | trivial | kernel_rfl) ?_ | refine AWP.seq ?_ | refine tX hC hP (by kernel_rfl) ?_ | refine aX hC hM hP (by kernel_rfl) ?_ | refine AWP.skip ?_ | refine AWP.label ?_ | refine AWP.exit ?_ | refine AWP.block ?_ | refine cTa ?_ | refine cFa ?_) | simp only [qS, Nat.reduceEqDiff, ↓reduceIte]))
              refine ⟨u + 1, ⟨by omega, by omega, fun e q1 q2 => ?_⟩, by omega, by simp [Sub, lk]⟩
              by_cases e1 : e = u
              · have h3 : (b * ((u : Int) ^ 6 % p) % p == d) = false := by rw [beq_eq_false_iff_ne]; exact fun e => h2 e.symm
                rw [e1]; simp only [isoS, h3, Bool.and_false]
              · exact hu.2.2 e q1 (by omega)
          · (repeat (first | ((with_reducible refine rgn_cons rfl (fun K hK => ?_)); simp only [go_sem, seval, ↓reduceIte, decide_true, decide_false, hlt, show p ≠ 0 by omega, wid (a * ((u : Int) ^ 4 % p)) (by omega) (by omega), tm (a * ((u : Int) ^ 4 % p)) p (by omega), show (c == a * ((u : Int) ^ 4 % p) % p) = false by simpa using h1, wid ((u : Int) + 1) (by omega) (by omega)]; (first | refine hK _ _ _ (by simp only [go_sem, Nat.reduceEqDiff, ↓reduceIte]; rfl) ?_ | refine ⟨_, hA, hK _ _ _ (by simp only [go_sem, Nat.reduceEqDiff, ↓reduceIte]; rfl) ?_⟩ | refine ⟨_, hB, hK _ _ _ (by simp only [go_sem, Nat.reduceEqDiff, ↓reduceIte]; rfl) ?_⟩); clear hK; clear K) | (with_reducible first | refine rgn_nil (by first | trivial | kernel_rfl) ?_ | refine AWP.seq ?_ | refine tX hC hP (by kernel_rfl) ?_ | refine aX hC hM hP (by kernel_rfl) ?_ | refine AWP.skip ?_ | refine AWP.label ?_ | refine AWP.exit ?_ | refine AWP.block ?_ | refine cTa ?_ | refine cFa ?_) | simp only [qS, Nat.reduceEqDiff, ↓reduceIte]))
            refine ⟨u + 1, ⟨by omega, by omega, fun e q1 q2 => ?_⟩, by omega, by simp [Sub, lk]⟩
            by_cases e1 : e = u
            · have h3 : (a * ((u : Int) ^ 4 % p) % p == c) = false := by rw [beq_eq_false_iff_ne]; exact fun e => h1 e.symm
              rw [e1]; simp only [isoS, h3, Bool.false_and]
            · exact hu.2.2 e q1 (by omega)
        · (repeat (first | ((with_reducible refine rgn_cons rfl (fun K hK => ?_)); simp only [go_sem, seval, ↓reduceIte, decide_true, decide_false, hlt, decide_false]; (refine hK _ _ _ (by simp only [go_sem, Nat.reduceEqDiff, ↓reduceIte]; rfl) ?_); clear hK; clear K) | (with_reducible first | refine rgn_nil (by first | trivial | kernel_rfl) ?_ | refine AWP.seq ?_ | refine tX hC hP (by kernel_rfl) ?_ | refine aX hC hM hP (by kernel_rfl) ?_ | refine AWP.skip ?_ | refine AWP.label ?_ | refine AWP.exit ?_ | refine AWP.block ?_ | refine cTa ?_ | refine cFa ?_) | simp only [qS, Nat.reduceEqDiff, ↓reduceIte]))
          (refine AWP.ret ?_; refine retOk2 (by simp only [go_sem, seval, ↓reduceIte, decide_true, decide_false]; rfl) (by simp only [go_sem, seval, ↓reduceIte, decide_true, decide_false]; rfl) (by simp) ?_)
          rw [isoR_false (fun e q1 q2 => hu.2.2 e q1 (by omega))]
    all_goals
      rw [h1] at hA
      rw [h2] at hB
      (repeat (first | ((with_reducible refine rgn_cons rfl (fun K hK => ?_)); simp only [go_sem, seval, ↓reduceIte, decide_true, decide_false]; (first | refine hK _ _ _ (by simp only [go_sem, Nat.reduceEqDiff, ↓reduceIte]; rfl) ?_ | refine ⟨_, hA, hK _ _ _ (by simp only [go_sem, Nat.reduceEqDiff, ↓reduceIte]; rfl) ?_⟩ | refine ⟨_, hB, hK _ _ _ (by simp only [go_sem, Nat.reduceEqDiff, ↓reduceIte]; rfl) ?_⟩ | refine ⟨_, hF, hK _ _ _ (by simp only [go_sem, Nat.reduceEqDiff, ↓reduceIte]; rfl) ?_⟩); clear hK; clear K) | (with_reducible first | refine rgn_nil (by first | trivial | kernel_rfl) ?_ | refine AWP.seq ?_ | refine tX hC hP (by kernel_rfl) ?_ | refine aX hC hM hP (by kernel_rfl) ?_ | refine AWP.skip ?_ | refine AWP.label ?_ | refine AWP.exit ?_ | refine AWP.block ?_ | refine cTa ?_ | refine cFa ?_) | simp only [qS, Nat.reduceEqDiff, ↓reduceIte]))
      (refine AWP.ret ?_; refine retOk2 (by simp only [go_sem, seval, ↓reduceIte, decide_true, decide_false]; rfl) (by simp only [go_sem, seval, ↓reduceIte, decide_true, decide_false]; rfl) (by simp) ?_)
      simp [isoQ, codeI, hf, h1, h2]
end Go.Proofs.Ytoooefcjkmfhoaa
