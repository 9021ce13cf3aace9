/-
  Twists; invariants; isomorphic curves.
-/
import Derived.Test.YtoooefcjkmfhoaaEd
namespace Go.Proofs.Ytoooefcjkmfhoaa
open Go.RowKit
set_option linter.unusedSimpArgs false
set_option linter.unusedVariables false
set_option linter.unusedSectionVars false
set_option maxRecDepth 20000
-- Twists; invariants; isomorphic curves.
/-- The least number from 2 on that is no square. -/
def nsq (p : Nat) : Nat := ((List.range p).find? (fun d => decide (2 ≤ d) && decide (d ^ ((p - 1) / 2) % p ≠ 1))).getD 0
theorem nsq_all : ((List.range 98).all fun p => !(fieldB (p : Int)) || (decide (2 ≤ nsq p ∧ nsq p < p ∧ nsq p ^ ((p - 1) / 2) % p ≠ 1) && (List.range (nsq p)).all fun d => decide (d < 2) || decide (d ^ ((p - 1) / 2) % p = 1))) = true := by decide +kernel
theorem nsq_facts {p : Nat} (h : fieldB (p : Int) = true) : 2 ≤ nsq p ∧ nsq p < p ∧ nsq p ^ ((p - 1) / 2) % p ≠ 1 ∧ ∀ d, 2 ≤ d → d < nsq p → d ^ ((p - 1) / 2) % p = 1 := by
  have h2 := fieldB_facts h
  have h1 := List.all_eq_true.1 nsq_all p (List.mem_range.2 (by omega))
  rw [h] at h1
  simp only [Bool.not_true, Bool.false_or, Bool.and_eq_true, decide_eq_true_eq, List.all_eq_true, Bool.or_eq_true, List.mem_range] at h1
  refine ⟨h1.1.1, h1.1.2.1, h1.1.2.2, fun d hd hlt => ?_⟩
  rcases h1.2 d hlt with h3 | h3
  · omega
  · exact h3
theorem nat_pow_mod (d k p : Nat) : (d : Int) ^ k % (p : Int) = ((d ^ k % p : Nat) : Int) := by
  rw [Int.natCast_emod, Int.natCast_pow]
def twD (p a n : Int) (k : Nat) : Int := a * (n ^ k % p) % p
def twA (p a b : Int) : Int := if codeE p a b = 0 then twD p a (nsq p.toNat : Int) 2 else 0
def twB (p a b : Int) : Int := if codeE p a b = 0 then twD p b (nsq p.toNat : Int) 3 else 0
set_option maxHeartbeats 1000000 in
theorem c_impl_TwistOfCurve (p a b : Int) : AFn Try.prog 15 [.int .i64 p, .int .i64 a, .int .i64 b] (.tup [.int .i64 (twA p a b), .int .i64 (twB p a b), .int .i64 (codeE p a b)]) := by
  refine AFn.of' ttOk (by decide) Try.func15 Try.ntmps15 (by rw [Try.results15]) (by rfl) (by rfl) (by simp) (by decide) (by simp only [go_sem, Nat.reduceAdd, ↓reduceIte]; rfl) mixed (fun C hP hM hC => ?_)
  by_cases hc : codeE p a b = 0
  · have hf := (codeE_zero hc).1
    obtain ⟨h5, h97, ha, ha2, hb, hb2⟩ := CurveOk.of hc
    obtain ⟨q, rfl⟩ := Int.eq_ofNat_of_zero_le (show 0 ≤ p by omega)
    have hn := nsq_facts hf
    have hk : ((q : Int) - 1).tdiv 2 = (((q - 1) / 2 : Nat) : Int) := by rw [Int.tdiv_eq_ediv_of_nonneg (by omega)]; omega
    have e2 := emod_b ((nsq q : Int) ^ 2) (q : Int) (by omega)
    have e3 := emod_b ((nsq q : Int) ^ 3) (q : Int) (by omega)
    have m2 := small_mul h97 ha ha2 e2.1 e2.2
    have m3 := small_mul h97 hb hb2 e3.1 e3.2
    (repeat (first | ((with_reducible refine rgn_cons rfl (fun K hK => ?_)); simp only [go_sem, seval, ↓reduceIte, decide_true, decide_false, hc]; (first | refine hK _ _ _ (by simp only [go_sem, Nat.reduceEqDiff, ↓reduceIte]; rfl) ?_ | refine ⟨_, c_impl_curveAt_nil (q : Int) a b, hK _ _ _ (by simp only [go_sem, Nat.reduceEqDiff, ↓reduceIte]; rfl) ?_⟩); clear hK; clear K) | (with_reducible first | refine rgn_nil (by first | trivial | kernel_rfl) ?_ | refine AWP.seq ?_ | refine tX hC hP (by kernel_rfl) ?_ | refine aX hC hM hP (by kernel_rfl) ?_ | refine AWP.skip ?_ | refine AWP.label ?_ | refine AWP.exit ?_ | refine AWP.block ?_ | refine cTa ?_ | refine cFa ?_) | simp only [qS, Nat.reduceEqDiff, ↓reduceIte]))
    refine AWP.loop (fun d : Nat => [(11, ⟨0, .val (.int .i64 d)⟩), (0, ⟨0, .val (.int .i64 (q : Int))⟩), (1, ⟨0, .val (.int .i64 a)⟩), (2, ⟨0, .val (.int .i64 b)⟩)]) (fun d => 2 ≤ d ∧ d ≤ nsq q) (fun d => nsq q - d) 2 ⟨by omega, hn.1⟩ (fun i => rfl) ?_ (fun d hd => ?_)
    · simp [Sub, lk]
    · have hPw := c_impl_power (q : Int) (d : Int) ((q - 1) / 2) (by omega) (by omega) (by omega) (by omega) (by omega)
      rw [nat_pow_mod] at hPw
      by_cases hdn : d = nsq q
      · subst hdn
        have h1 : ((((nsq q) ^ ((q - 1) / 2) % q : Nat) : Int) == 1) = false := by rw [beq_eq_false_iff_ne]; exact fun e => hn.2.2.1 (Int.ofNat_inj.1 e)
        (repeat (first | ((with_reducible refine rgn_cons rfl (fun K hK => ?_)); simp only [go_sem, seval, ↓reduceIte, decide_true, decide_false, hk, h1, wid ((q : Int) - 1) (by omega) (by omega), widN ((q - 1) / 2) (by omega), show (2 : Int) ≠ 0 by omega, wid (a * ((nsq q : Int) ^ 2 % (q : Int))) (by omega) (by omega), wid (b * ((nsq q : Int) ^ 3 % (q : Int))) (by omega) (by omega), show (q : Int) ≠ 0 by omega, tm (a * ((nsq q : Int) ^ 2 % (q : Int))) (q : Int) (by omega), tm (b * ((nsq q : Int) ^ 3 % (q : Int))) (q : Int) (by omega)]; (first | refine hK _ _ _ (by simp only [go_sem, Nat.reduceEqDiff, ↓reduceIte]; rfl) ?_ | refine ⟨_, hPw, hK _ _ _ (by simp only [go_sem, Nat.reduceEqDiff, ↓reduceIte]; rfl) ?_⟩ | refine ⟨_, c_impl_power (q : Int) (nsq q : Int) 2 (by omega) (by omega) (by omega) (by omega) (by omega), hK _ _ _ (by simp only [go_sem, Nat.reduceEqDiff, ↓reduceIte]; rfl) ?_⟩ | refine ⟨_, c_impl_power (q : Int) (nsq q : Int) 3 (by omega) (by omega) (by omega) (by omega) (by omega), hK _ _ _ (by simp only [go_sem, Nat.reduceEqDiff, ↓reduceIte]; rfl) ?_⟩); clear hK; clear K) | (with_reducible first | refine rgn_nil (by first | trivial | kernel_rfl) ?_ | refine AWP.seq ?_ | refine tX hC hP (by kernel_rfl) ?_ | refine aX hC hM hP (by kernel_rfl) ?_ | refine AWP.skip ?_ | refine AWP.label ?_ | refine AWP.exit ?_ | refine AWP.block ?_ | refine cTa ?_ | refine cFa ?_) | simp only [qS, Nat.reduceEqDiff, ↓reduceIte]))
        (refine AWP.ret ?_; refine retOk3 (by simp only [go_sem, seval, ↓reduceIte, decide_true, decide_false]; rfl) (by simp only [go_sem, seval, ↓reduceIte, decide_true, decide_false]; rfl) (by simp only [go_sem, seval, ↓reduceIte, decide_true, decide_false]; rfl) (by simp) ?_)
        simp only [twA, twB, twD, hc, if_true, Int.toNat_natCast]
      · have h1 := hn.2.2.2 d hd.1 (by omega)
        rw [h1] at hPw
        (repeat (first | ((with_reducible refine rgn_cons rfl (fun K hK => ?_)); simp only [go_sem, seval, ↓reduceIte, decide_true, decide_false, hk, wid ((q : Int) - 1) (by omega) (by omega), widN ((q - 1) / 2) (by omega), show (2 : Int) ≠ 0 by omega, Int.natCast_one, wid ((d : Int) + 1) (by omega) (by omega)]; (first | refine hK _ _ _ (by simp only [go_sem, Nat.reduceEqDiff, ↓reduceIte]; rfl) ?_ | refine ⟨_, hPw, hK _ _ _ (by simp only [go_sem, Nat.reduceEqDiff, ↓reduceIte]; rfl) ?_⟩); clear hK; clear K) | (with_reducible first | refine rgn_nil (by first | trivial | kernel_rfl) ?_ | refine AWP.seq ?_ | refine tX hC hP (by kernel_rfl) ?_ | refine aX hC hM hP (by kernel_rfl) ?_ | refine AWP.skip ?_ | refine AWP.label ?_ | refine AWP.exit ?_ | refine AWP.block ?_ | refine cTa ?_ | refine cFa ?_) | simp only [qS, Nat.reduceEqDiff, ↓reduceIte]))
        exact ⟨d + 1, ⟨by omega, by omega⟩, by omega, by simp [Sub, lk]⟩
  · (repeat (first | ((with_reducible refine rgn_cons rfl (fun K hK => ?_)); simp only [go_sem, seval, ↓reduceIte, decide_true, decide_false, show (codeE p a b != 0) = true by simpa using hc]; (first | refine hK _ _ _ (by simp only [go_sem, Nat.reduceEqDiff, ↓reduceIte]; rfl) ?_ | refine ⟨_, c_impl_curveAt_nil p a b, hK _ _ _ (by simp only [go_sem, Nat.reduceEqDiff, ↓reduceIte]; rfl) ?_⟩); clear hK; clear K) | (with_reducible first | refine rgn_nil (by first | trivial | kernel_rfl) ?_ | refine AWP.seq ?_ | refine tX hC hP (by kernel_rfl) ?_ | refine aX hC hM hP (by kernel_rfl) ?_ | refine AWP.skip ?_ | refine AWP.label ?_ | refine AWP.exit ?_ | refine AWP.block ?_ | refine cTa ?_ | refine cFa ?_) | simp only [qS, Nat.reduceEqDiff, ↓reduceIte]))
    (refine AWP.ret ?_; refine retOk3 (by simp only [go_sem, seval, ↓reduceIte, decide_true, decide_false]; rfl) (by simp only [go_sem, seval, ↓reduceIte, decide_true, decide_false]; rfl) (by simp only [go_sem, seval, ↓reduceIte, decide_true, decide_false]; rfl) (by simp) ?_)
    simp [twA, twB, hc]
-- Invariants; isomorphic curves.
def invR (p a b : Int) : Int := if codeE p a b = 0 then 6912 * a ^ 3 * invL p (disc p a b) % p else 0
theorem disc_eq3 (p a b : Int) : (4 * (a ^ 3 % p) % p + 27 * b % p * b) % p = disc p a b := by
  unfold disc
  rw [mul_emod_r, Int.emod_add_emod, Int.add_emod, mul_emod_l, ← Int.add_emod]
  congr 1
  grind
theorem inv_eq1 (p a v : Int) : (1728 % p * (4 * (a ^ 3 % p) % p) % p * v) % p = 6912 * a ^ 3 * v % p := by
  rw [mul_emod_r (4) (a^3)]
  rw [Int.mul_emod (1728 % p * (4 * a ^ 3 % p) % p), Int.emod_emod, Int.mul_emod (1728 % p), Int.emod_emod, Int.emod_emod, ← Int.mul_emod 1728, ← Int.mul_emod]
  congr 1
  grind
theorem inv_eq2 (p a v : Int) : (6912 % p * (a ^ 3 % p) % p * v) % p = 6912 * a ^ 3 * v % p := by
  rw [Int.mul_emod (6912 % p * (a ^ 3 % p) % p), Int.emod_emod, ← Int.mul_emod 6912, ← Int.mul_emod]
set_option maxHeartbeats 1000000 in
theorem c_impl_InvariantOfCurve (p a b : Int) : AFn Try.prog 19 [.int .i64 p, .int .i64 a, .int .i64 b] (.tup [.int .i64 (invR p a b), .int .i64 (codeE p a b)]) := by
  refine AFn.of' ttOk (by decide) Try.func19 Try.ntmps19 (by rw [Try.results19]) (by rfl) (by rfl) (by simp) (by decide) (by simp only [go_sem, Nat.reduceAdd, ↓reduceIte]; rfl) mixed (fun C hP hM hC => ?_)
  by_cases hc : codeE p a b = 0
  · obtain ⟨h5, h97, ha, ha2, hb, hb2⟩ := CurveOk.of hc
    have e3 := emod_b (a ^ 3) p (by omega)
    have ek := emod_b 6912 p (by omega)
    have mk := small_mul h97 ek.1 ek.2 e3.1 e3.2
    have ev := invL_bound p (disc p a b) (by omega)
    have ew := emod_b (6912 % p * (a ^ 3 % p)) p (by omega)
    have mv := small_mul h97 ew.1 ew.2 ev.1 ev.2
    (repeat (first | ((with_reducible refine rgn_cons rfl (fun K hK => ?_)); simp only [go_sem, seval, ↓reduceIte, decide_true, decide_false, hc, show p ≠ 0 by omega, tm 6912 p (by omega), wid (6912 % p * (a ^ 3 % p)) (by omega) (by omega), tm (6912 % p * (a ^ 3 % p)) p (by omega), wid (6912 % p * (a ^ 3 % p) % p * invL p (disc p a b)) (by omega) (by omega), tm (6912 % p * (a ^ 3 % p) % p * invL p (disc p a b)) p (by omega), inv_eq2]; (first | refine hK _ _ _ (by simp only [go_sem, Nat.reduceEqDiff, ↓reduceIte]; rfl) ?_ | refine ⟨_, c_impl_curveAt_nil p a b, hK _ _ _ (by simp only [go_sem, Nat.reduceEqDiff, ↓reduceIte]; rfl) ?_⟩ | refine ⟨_, c_impl_power p a 3 (by omega) (by omega) ha ha2 (by omega), hK _ _ _ (by simp only [go_sem, Nat.reduceEqDiff, ↓reduceIte]; rfl) ?_⟩ | refine ⟨_, c_impl_discriminant p a b h5 h97 ha ha2 hb hb2, hK _ _ _ (by simp only [go_sem, Nat.reduceEqDiff, ↓reduceIte]; rfl) ?_⟩ | refine ⟨_, c_impl_inverse p (disc p a b) (by omega) (by omega), hK _ _ _ (by simp only [go_sem, Nat.reduceEqDiff, ↓reduceIte]; rfl) ?_⟩); clear hK; clear K) | (with_reducible first | refine rgn_nil (by first | trivial | kernel_rfl) ?_ | refine AWP.seq ?_ | refine tX hC hP (by kernel_rfl) ?_ | refine aX hC hM hP (by kernel_rfl) ?_ | refine AWP.skip ?_ | refine AWP.label ?_ | refine AWP.exit ?_ | refine AWP.block ?_ | refine cTa ?_ | refine cFa ?_) | simp only [qS, Nat.reduceEqDiff, ↓reduceIte]))
    (refine AWP.ret ?_; refine retOk2 (by simp only [go_sem, seval, ↓reduceIte, decide_true, decide_false]; rfl) (by simp only [go_sem, seval, ↓reduceIte, decide_true, decide_false]; rfl) (by simp) ?_)
    simp only [invR, hc, if_true]
  · (repeat (first | ((with_reducible refine rgn_cons rfl (fun K hK => ?_)); simp only [go_sem, seval, ↓reduceIte, decide_true, decide_false, show (codeE p a b != 0) = true by simpa using hc]; (first | refine hK _ _ _ (by simp only [go_sem, Nat.reduceEqDiff, ↓reduceIte]; rfl) ?_ | refine ⟨_, c_impl_curveAt_nil p a b, hK _ _ _ (by simp only [go_sem, Nat.reduceEqDiff, ↓reduceIte]; rfl) ?_⟩); clear hK; clear K) | (with_reducible first | refine rgn_nil (by first | trivial | kernel_rfl) ?_ | refine AWP.seq ?_ | refine tX hC hP (by kernel_rfl) ?_ | refine aX hC hM hP (by kernel_rfl) ?_ | refine AWP.skip ?_ | refine AWP.label ?_ | refine AWP.exit ?_ | refine AWP.block ?_ | refine cTa ?_ | refine cFa ?_) | simp only [qS, Nat.reduceEqDiff, ↓reduceIte]))
    (refine AWP.ret ?_; refine retOk2 (by simp only [go_sem, seval, ↓reduceIte, decide_true, decide_false]; rfl) (by simp only [go_sem, seval, ↓reduceIte, decide_true, decide_false]; rfl) (by simp) ?_)
    simp [invR, hc]
end Go.Proofs.Ytoooefcjkmfhoaa
