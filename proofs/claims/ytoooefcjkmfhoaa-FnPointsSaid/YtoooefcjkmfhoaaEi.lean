/-
  Sums of points.
-/
import Derived.Test.YtoooefcjkmfhoaaEd
import Derived.Test.YtoooefcjkmfhoaaLr
namespace Go.Proofs.Ytoooefcjkmfhoaa
open Go.RowKit
set_option linter.unusedSimpArgs false
set_option linter.unusedVariables false
set_option linter.unusedSectionVars false
set_option maxRecDepth 20000
-- Sums of points.
def PtOk (p : Int) (l : List Int) : Prop := l.length = 0 ∨ (l.length = 2 ∧ 0 ≤ at' l 0 ∧ at' l 0 < p ∧ 0 ≤ at' l 1 ∧ at' l 1 < p)
theorem PtOk.len {p : Int} {l : List Int} (h : PtOk p l) : l.length ≤ 2 := by rcases h with h | h <;> omega
theorem hasB_ok {p a b : Int} {l : List Int} (h : hasB p a b l = true) : PtOk p l := by
  simp only [hasB, Bool.or_eq_true, Bool.and_eq_true, beq_iff_eq, isNum_iff] at h
  rcases h with h | ⟨⟨⟨h1, h2⟩, h3⟩, _⟩
  · exact .inl h
  · exact .inr ⟨h1, h2.1, h2.2, h3.1, h3.2⟩
def slopeE (p a x y u v : Int) : Int := if x = u then (3 * x * x + a) % p * invL p (2 * y) % p else (v - y) % p * invL p (u - x) % p
/-- The sum of two points. -/
def addE (p a : Int) (f s : List Int) : List Int :=
  if f.length = 0 then s else if s.length = 0 then f else
  if at' f 0 = at' s 0 ∧ (at' f 1 + at' s 1) % p = 0 then [] else
  [(slopeE p a (at' f 0) (at' f 1) (at' s 0) (at' s 1) * slopeE p a (at' f 0) (at' f 1) (at' s 0) (at' s 1) - at' f 0 - at' s 0) % p,
   (slopeE p a (at' f 0) (at' f 1) (at' s 0) (at' s 1) * (at' f 0 - (slopeE p a (at' f 0) (at' f 1) (at' s 0) (at' s 1) * slopeE p a (at' f 0) (at' f 1) (at' s 0) (at' s 1) - at' f 0 - at' s 0) % p) - at' f 1) % p]
theorem addE_ok {p a : Int} (hp : 0 < p) {f s : List Int} (hf : PtOk p f) (hs : PtOk p s) : PtOk p (addE p a f s) := by
  unfold addE
  split
  · exact hs
  · split
    · exact hf
    · split
      · exact .inl rfl
      · exact .inr ⟨rfl, (emod_b _ p hp).1, (emod_b _ p hp).2, (emod_b _ p hp).1, (emod_b _ p hp).2⟩
theorem invL_mod (p x : Int) : invL p (x % p) = invL p x := by unfold invL; rw [Int.emod_emod]
theorem z_eq (p s x w y : Int) : (s * ((x - w) % p) - y) % p = (s * (x - w) - y) % p := by
  rw [Int.sub_emod, mul_emod_r, ← Int.sub_emod]
theorem intL_two (x y : Int) : intL [x, y] = [.int .i64 x, .int .i64 y] := rfl
set_option maxHeartbeats 1000000 in
theorem c_impl_copyOf_int64 (l : List Int) (hl : l.length ≤ 1000000000) : AFn Try.prog 76 [.sl false 2 (intL l)] (.sl true 2 (intL l)) := by
  refine AFn.of' ttOk (by decide) Try.func76 Try.ntmps76 (by rw [Try.results76]) (by rfl) (by rfl) (by simp) (by decide) (by simp only [go_sem, Nat.reduceAdd, ↓reduceIte]; rfl) mixed (fun C hP hM hC => ?_)
  (repeat (first | ((with_reducible refine rgn_cons rfl (fun K hK => ?_)); simp only [go_sem, seval, ↓reduceIte, decide_true, decide_false, intL_plain, Nat.zero_add, List.length_nil, show l.length ≤ 1099511627776 by omega, show l.length * 8 ≤ 140737488355328 by omega]; (refine hK _ _ _ (by simp only [go_sem, Nat.reduceEqDiff, ↓reduceIte]; rfl) ?_); clear hK; clear K) | (with_reducible first | refine rgn_nil (by first | trivial | kernel_rfl) ?_ | refine AWP.seq ?_ | refine tX hC hP (by kernel_rfl) ?_ | refine aX hC hM hP (by kernel_rfl) ?_ | refine AWP.skip ?_ | refine AWP.label ?_ | refine AWP.exit ?_ | refine AWP.block ?_ | refine cTa ?_ | refine cFa ?_) | simp only [qS, Nat.reduceEqDiff, ↓reduceIte]))
  (refine AWP.ret ?_; refine retOk1 (by simp only [go_sem, seval, ↓reduceIte, decide_true, decide_false]; rfl) ?_)
  rfl
set_option maxHeartbeats 2000000 in
theorem c_spec_l18Add (p a : Int) (f s : List Int) (h5 : 5 ≤ p) (h97 : p ≤ 97) (ha : 0 ≤ a) (ha2 : a < p) (hf : PtOk p f) (hs : PtOk p s) : AFn Try.prog 57 [.int .i64 p, .int .i64 a, .sl false 2 (intL f), .sl false 2 (intL s)] (.sl true 2 (intL (addE p a f s))) := by
  refine AFn.of' ttOk (by decide) Try.func57 Try.ntmps57 (by rw [Try.results57]) (by rfl) (by rfl) (by simp) (by decide) (by simp only [go_sem, Nat.reduceAdd, ↓reduceIte]; rfl) mixed (fun C hP hM hC => ?_)
  by_cases f0 : f.length = 0
  · (repeat (first | ((with_reducible refine rgn_cons rfl (fun K hK => ?_)); simp only [go_sem, seval, ↓reduceIte, decide_true, decide_false, show ((f.length : Int) == 0) = true by simp [f0]]; (first | refine hK _ _ _ (by simp only [go_sem, Nat.reduceEqDiff, ↓reduceIte]; rfl) ?_ | refine ⟨_, c_spec_l01Own s (by have := hs.len; omega), hK _ _ _ (by simp only [go_sem, Nat.reduceEqDiff, ↓reduceIte]; rfl) ?_⟩); clear hK; clear K) | (with_reducible first | refine rgn_nil (by first | trivial | kernel_rfl) ?_ | refine AWP.seq ?_ | refine tX hC hP (by kernel_rfl) ?_ | refine aX hC hM hP (by kernel_rfl) ?_ | refine AWP.skip ?_ | refine AWP.label ?_ | refine AWP.exit ?_ | refine AWP.block ?_ | refine cTa ?_ | refine cFa ?_) | simp only [qS, Nat.reduceEqDiff, ↓reduceIte]))
    (refine AWP.ret ?_; refine retOk1 (by simp only [go_sem, seval, ↓reduceIte, decide_true, decide_false]; rfl) ?_)
    simp [addE, f0]
  · have f0' : ((f.length : Int) == 0) = false := by rw [beq_eq_false_iff_ne]; omega
    by_cases s0 : s.length = 0
    · (repeat (first | ((with_reducible refine rgn_cons rfl (fun K hK => ?_)); simp only [go_sem, seval, ↓reduceIte, decide_true, decide_false, f0', show ((s.length : Int) == 0) = true by simp [s0]]; (first | refine hK _ _ _ (by simp only [go_sem, Nat.reduceEqDiff, ↓reduceIte]; rfl) ?_ | refine ⟨_, c_spec_l01Own f (by have := hf.len; omega), hK _ _ _ (by simp only [go_sem, Nat.reduceEqDiff, ↓reduceIte]; rfl) ?_⟩); clear hK; clear K) | (with_reducible first | refine rgn_nil (by first | trivial | kernel_rfl) ?_ | refine AWP.seq ?_ | refine tX hC hP (by kernel_rfl) ?_ | refine aX hC hM hP (by kernel_rfl) ?_ | refine AWP.skip ?_ | refine AWP.label ?_ | refine AWP.exit ?_ | refine AWP.block ?_ | refine cTa ?_ | refine cFa ?_) | simp only [qS, Nat.reduceEqDiff, ↓reduceIte]))
      (refine AWP.ret ?_; refine retOk1 (by simp only [go_sem, seval, ↓reduceIte, decide_true, decide_false]; rfl) ?_)
      simp [addE, f0, s0]
    · have s0' : ((s.length : Int) == 0) = false := by rw [beq_eq_false_iff_ne]; omega
      obtain ⟨fl, x1, x2, y1, y2⟩ := hf.resolve_left f0
      obtain ⟨sl, u1, u2, v1, v2⟩ := hs.resolve_left s0
      obtain ⟨x, hx⟩ : ∃ x, at' f 0 = x := ⟨_, rfl⟩
      obtain ⟨y, hy⟩ : ∃ y, at' f 1 = y := ⟨_, rfl⟩
      obtain ⟨u, hu⟩ : ∃ u, at' s 0 = u := ⟨_, rfl⟩
      obtain ⟨v, hv⟩ : ∃ v, at' s 1 = v := ⟨_, rfl⟩
      have hE : addE p a f s = if x = u ∧ (y + v) % p = 0 then [] else
          [(slopeE p a x y u v * slopeE p a x y u v - x - u) % p, (slopeE p a x y u v * (x - (slopeE p a x y u v * slopeE p a x y u v - x - u) % p) - y) % p] := by
        unfold addE; rw [if_neg f0, if_neg s0, hx, hy, hu, hv]
      rw [hE]
      rw [hx] at x1 x2
      rw [hy] at y1 y2
      rw [hu] at u1 u2
      rw [hv] at v1 v2
      have g0 : (intL f).getD 0 .any = .int .i64 x := (intL_getD f 0 (by omega)).trans (congrArg _ hx)
      have g1 : (intL f).getD 1 .any = .int .i64 y := (intL_getD f 1 (by omega)).trans (congrArg _ hy)
      have k0 : (intL s).getD 0 .any = .int .i64 u := (intL_getD s 0 (by omega)).trans (congrArg _ hu)
      have k1 : (intL s).getD 1 .any = .int .i64 v := (intL_getD s 1 (by omega)).trans (congrArg _ hv)
      have b0 : (0 : Int) < (f.length : Int) := by omega
      have b1 : (1 : Int) < (f.length : Int) := by omega
      have b2 : (0 : Int) < (s.length : Int) := by omega
      have b3 : (1 : Int) < (s.length : Int) := by omega
      have w1 := wid (v - y) (by omega) (by omega)
      have w2 := wid (u - x) (by omega) (by omega)
      have hp0 : p ≠ 0 := by omega
      by_cases hxu : x = u
      · have hxu' : (x == u) = true := by simpa using hxu
        by_cases h0 : (y + v) % p = 0
        · rw [if_pos ⟨hxu, h0⟩]
          (repeat (first | ((with_reducible refine rgn_cons rfl (fun K hK => ?_)); simp only [go_sem, seval, ↓reduceIte, decide_true, decide_false, f0', s0', g0, g1, k0, k1, b0, b1, b2, b3, w1, w2, Int.le_refl, Int.toNat_zero, hxu', wid (y + v) (by omega) (by omega), hp0, tm (y + v) p (by omega), h0]; (first | refine hK _ _ _ (by simp only [go_sem, Nat.reduceEqDiff, ↓reduceIte]; rfl) ?_ | refine ⟨_, c_spec_l01Mod p (v - y) (by omega) (by omega), hK _ _ _ (by simp only [go_sem, Nat.reduceEqDiff, ↓reduceIte]; rfl) ?_⟩ | refine ⟨_, c_spec_l01Mod p (u - x) (by omega) (by omega), hK _ _ _ (by simp only [go_sem, Nat.reduceEqDiff, ↓reduceIte]; rfl) ?_⟩); clear hK; clear K) | (with_reducible first | refine rgn_nil (by first | trivial | kernel_rfl) ?_ | refine AWP.seq ?_ | refine tX hC hP (by kernel_rfl) ?_ | refine aX hC hM hP (by kernel_rfl) ?_ | refine AWP.skip ?_ | refine AWP.label ?_ | refine AWP.exit ?_ | refine AWP.block ?_ | refine cTa ?_ | refine cFa ?_) | simp only [qS, Nat.reduceEqDiff, ↓reduceIte]))
          (refine AWP.ret ?_; refine retOk1 (by simp only [go_sem, seval, ↓reduceIte, decide_true, decide_false]; rfl) ?_)
          rfl
        · rw [if_neg (fun e => h0 e.2)]
          have h0' : ((y + v) % p == 0) = false := by simpa using h0
          obtain ⟨t, ht⟩ : ∃ t, slopeE p a x y u v = t := ⟨_, rfl⟩
          rw [ht]
          have ht2 : (3 * x * x + a) % p * invL p (2 * y) % p = t := by rw [← ht]; unfold slopeE; rw [if_pos hxu]
          have hI := c_spec_l01Inv p (2 * y % p) (by omega) (by omega)
          rw [invL_mod] at hI
          have eb := emod_b (3 * x * x + a) p (by omega)
          have iv := invL_bound p (2 * y) (by omega)
          have ei := small_mul h97 eb.1 eb.2 iv.1 iv.2
          have xx := small_mul h97 x1 x2 x1 x2
          have xx3 : 3 * x * x = 3 * (x * x) := Int.mul_assoc _ _ _
          have tb : 0 ≤ t ∧ t < p := ht2 ▸ emod_b _ p (by omega)
          obtain ⟨w, hw⟩ : ∃ w, (t * t - x - u) % p = w := ⟨_, rfl⟩
          have wb : 0 ≤ w ∧ w < p := hw ▸ emod_b _ p (by omega)
          rw [hw]
          have tt := small_mul h97 tb.1 tb.2 tb.1 tb.2
          have ezb := emod_b (x - w) p (by omega)
          have tz := small_mul h97 tb.1 tb.2 ezb.1 ezb.2
          (repeat (first | ((with_reducible refine rgn_cons rfl (fun K hK => ?_)); simp only [go_sem, seval, ↓reduceIte, decide_true, decide_false, f0', s0', g0, g1, k0, k1, b0, b1, b2, b3, w1, w2, Int.le_refl, Int.toNat_zero, hxu', wid (y + v) (by omega) (by omega), hp0, tm (y + v) p (by omega), h0', wid (3 * x) (by omega) (by omega), wid (3 * x * x) (by omega) (by omega), wid (3 * x * x + a) (by omega) (by omega), tm (3 * x * x + a) p (by omega), wid (2 * y) (by omega) (by omega), tm (2 * y) p (by omega), wid ((3 * x * x + a) % p * invL p (2 * y)) (by omega) (by omega), tm ((3 * x * x + a) % p * invL p (2 * y)) p (by omega), ht2, wid (t * t) (by omega) (by omega), wid (t * t - x) (by omega) (by omega), wid (t * t - x - u) (by omega) (by omega), hw, wid (x - w) (by omega) (by omega), wid (t * ((x - w) % p)) (by omega) (by omega), wid (t * ((x - w) % p) - y) (by omega) (by omega)]; (first | refine hK _ _ _ (by simp only [go_sem, Nat.reduceEqDiff, ↓reduceIte]; rfl) ?_ | refine ⟨_, c_spec_l01Mod p (v - y) (by omega) (by omega), hK _ _ _ (by simp only [go_sem, Nat.reduceEqDiff, ↓reduceIte]; rfl) ?_⟩ | refine ⟨_, c_spec_l01Mod p (u - x) (by omega) (by omega), hK _ _ _ (by simp only [go_sem, Nat.reduceEqDiff, ↓reduceIte]; rfl) ?_⟩ | refine ⟨_, c_spec_l01Mod p (t * t - x - u) (by omega) (by omega), hK _ _ _ (by simp only [go_sem, Nat.reduceEqDiff, ↓reduceIte]; rfl) ?_⟩ | refine ⟨_, c_spec_l01Mod p (x - w) (by omega) (by omega), hK _ _ _ (by simp only [go_sem, Nat.reduceEqDiff, ↓reduceIte]; rfl) ?_⟩ | refine ⟨_, c_spec_l01Mod p (t * ((x - w) % p) - y) (by omega) (by omega), hK _ _ _ (by simp only [go_sem, Nat.reduceEqDiff, ↓reduceIte]; rfl) ?_⟩ | refine ⟨_, hI, hK _ _ _ (by simp only [go_sem, Nat.reduceEqDiff, ↓reduceIte]; rfl) ?_⟩); clear hK; clear K) | (with_reducible first | refine rgn_nil (by first | trivial | kernel_rfl) ?_ | refine AWP.seq ?_ | refine tX hC hP (by kernel_rfl) ?_ | refine aX hC hM hP (by kernel_rfl) ?_ | refine AWP.skip ?_ | refine AWP.label ?_ | refine AWP.exit ?_ | refine AWP.block ?_ | refine cTa ?_ | refine cFa ?_) | simp only [qS, Nat.reduceEqDiff, ↓reduceIte]))
          (refine AWP.ret ?_; refine retOk1 (by simp only [go_sem, seval, ↓reduceIte, decide_true, decide_false]; rfl) ?_)
          rw [intL_two, z_eq]
      · have hxu' : (x == u) = false := by simpa using hxu
        rw [if_neg (fun e => hxu e.1)]
        obtain ⟨t, ht⟩ : ∃ t, slopeE p a x y u v = t := ⟨_, rfl⟩
        rw [ht]
        have ht2 : (v - y) % p * invL p (u - x) % p = t := by rw [← ht]; unfold slopeE; rw [if_neg hxu]
        have hI := c_spec_l01Inv p ((u - x) % p) (by omega) (by omega)
        rw [invL_mod] at hI
        have eb := emod_b (v - y) p (by omega)
        have iv := invL_bound p (u - x) (by omega)
        have ei := small_mul h97 eb.1 eb.2 iv.1 iv.2
        have tb : 0 ≤ t ∧ t < p := ht2 ▸ emod_b _ p (by omega)
        obtain ⟨w, hw⟩ : ∃ w, (t * t - x - u) % p = w := ⟨_, rfl⟩
        have wb : 0 ≤ w ∧ w < p := hw ▸ emod_b _ p (by omega)
        rw [hw]
        have tt := small_mul h97 tb.1 tb.2 tb.1 tb.2
        have ezb := emod_b (x - w) p (by omega)
        have tz := small_mul h97 tb.1 tb.2 ezb.1 ezb.2
        (repeat (first | ((with_reducible refine rgn_cons rfl (fun K hK => ?_)); simp only [go_sem, seval, ↓reduceIte, decide_true, decide_false, f0', s0', g0, g1, k0, k1, b0, b1, b2, b3, w1, w2, Int.le_refl, Int.toNat_zero, hxu', hp0, wid ((v - y) % p * invL p (u - x)) (by omega) (by omega), tm ((v - y) % p * invL p (u - x)) p (by omega), ht2, wid (t * t) (by omega) (by omega), wid (t * t - x) (by omega) (by omega), wid (t * t - x - u) (by omega) (by omega), hw, wid (x - w) (by omega) (by omega), wid (t * ((x - w) % p)) (by omega) (by omega), wid (t * ((x - w) % p) - y) (by omega) (by omega)]; (first | refine hK _ _ _ (by simp only [go_sem, Nat.reduceEqDiff, ↓reduceIte]; rfl) ?_ | refine ⟨_, c_spec_l01Mod p (v - y) (by omega) (by omega), hK _ _ _ (by simp only [go_sem, Nat.reduceEqDiff, ↓reduceIte]; rfl) ?_⟩ | refine ⟨_, c_spec_l01Mod p (u - x) (by omega) (by omega), hK _ _ _ (by simp only [go_sem, Nat.reduceEqDiff, ↓reduceIte]; rfl) ?_⟩ | refine ⟨_, c_spec_l01Mod p (t * t - x - u) (by omega) (by omega), hK _ _ _ (by simp only [go_sem, Nat.reduceEqDiff, ↓reduceIte]; rfl) ?_⟩ | refine ⟨_, c_spec_l01Mod p (x - w) (by omega) (by omega), hK _ _ _ (by simp only [go_sem, Nat.reduceEqDiff, ↓reduceIte]; rfl) ?_⟩ | refine ⟨_, c_spec_l01Mod p (t * ((x - w) % p) - y) (by omega) (by omega), hK _ _ _ (by simp only [go_sem, Nat.reduceEqDiff, ↓reduceIte]; rfl) ?_⟩ | refine ⟨_, hI, hK _ _ _ (by simp only [go_sem, Nat.reduceEqDiff, ↓reduceIte]; rfl) ?_⟩); clear hK; clear K) | (with_reducible first | refine rgn_nil (by first | trivial | kernel_rfl) ?_ | refine AWP.seq ?_ | refine tX hC hP (by kernel_rfl) ?_ | refine aX hC hM hP (by kernel_rfl) ?_ | refine AWP.skip ?_ | refine AWP.label ?_ | refine AWP.exit ?_ | refine AWP.block ?_ | refine cTa ?_ | refine cFa ?_) | simp only [qS, Nat.reduceEqDiff, ↓reduceIte]))
        (refine AWP.ret ?_; refine retOk1 (by simp only [go_sem, seval, ↓reduceIte, decide_true, decide_false]; rfl) ?_)
        rw [intL_two, z_eq]
set_option maxHeartbeats 2000000 in
theorem c_impl_elliptic_sum (p a b : Int) (f s : List Int) (h5 : 5 ≤ p) (h97 : p ≤ 97) (ha : 0 ≤ a) (ha2 : a < p) (hf : PtOk p f) (hs : PtOk p s) : AFn Try.prog 55 [.agg [.int .i64 p, .int .i64 a, .int .i64 b], .sl false 2 (intL f), .sl false 2 (intL s)] (.sl true 2 (intL (addE p a f s))) := by
  refine AFn.of' ttOk (by decide) Try.func55 Try.ntmps55 (by rw [Try.results55]) (by rfl) (by rfl) (by simp) (by decide) (by simp only [go_sem, Nat.reduceAdd, ↓reduceIte]; rfl) mixed (fun C hP hM hC => ?_)
  by_cases f0 : f.length = 0
  · (repeat (first | ((with_reducible refine rgn_cons rfl (fun K hK => ?_)); simp only [go_sem, seval, ↓reduceIte, decide_true, decide_false, show ((f.length : Int) == 0) = true by simp [f0]]; (first | refine hK _ _ _ (by simp only [go_sem, Nat.reduceEqDiff, ↓reduceIte]; rfl) ?_ | refine ⟨_, c_impl_copyOf_int64 s (by have := hs.len; omega), hK _ _ _ (by simp only [go_sem, Nat.reduceEqDiff, ↓reduceIte]; rfl) ?_⟩); clear hK; clear K) | (with_reducible first | refine rgn_nil (by first | trivial | kernel_rfl) ?_ | refine AWP.seq ?_ | refine tX hC hP (by kernel_rfl) ?_ | refine aX hC hM hP (by kernel_rfl) ?_ | refine AWP.skip ?_ | refine AWP.label ?_ | refine AWP.exit ?_ | refine AWP.block ?_ | refine cTa ?_ | refine cFa ?_) | simp only [qS, Nat.reduceEqDiff, ↓reduceIte]))
    (refine AWP.ret ?_; refine retOk1 (by simp only [go_sem, seval, ↓reduceIte, decide_true, decide_false]; rfl) ?_)
    simp [addE, f0]
  · have f0' : ((f.length : Int) == 0) = false := by rw [beq_eq_false_iff_ne]; omega
    by_cases s0 : s.length = 0
    · (repeat (first | ((with_reducible refine rgn_cons rfl (fun K hK => ?_)); simp only [go_sem, seval, ↓reduceIte, decide_true, decide_false, f0', show ((s.length : Int) == 0) = true by simp [s0]]; (first | refine hK _ _ _ (by simp only [go_sem, Nat.reduceEqDiff, ↓reduceIte]; rfl) ?_ | refine ⟨_, c_impl_copyOf_int64 f (by have := hf.len; omega), hK _ _ _ (by simp only [go_sem, Nat.reduceEqDiff, ↓reduceIte]; rfl) ?_⟩); clear hK; clear K) | (with_reducible first | refine rgn_nil (by first | trivial | kernel_rfl) ?_ | refine AWP.seq ?_ | refine tX hC hP (by kernel_rfl) ?_ | refine aX hC hM hP (by kernel_rfl) ?_ | refine AWP.skip ?_ | refine AWP.label ?_ | refine AWP.exit ?_ | refine AWP.block ?_ | refine cTa ?_ | refine cFa ?_) | simp only [qS, Nat.reduceEqDiff, ↓reduceIte]))
      (refine AWP.ret ?_; refine retOk1 (by simp only [go_sem, seval, ↓reduceIte, decide_true, decide_false]; rfl) ?_)
      simp [addE, f0, s0]
    · have s0' : ((s.length : Int) == 0) = false := by rw [beq_eq_false_iff_ne]; omega
      obtain ⟨fl, x1, x2, y1, y2⟩ := hf.resolve_left f0
      obtain ⟨sl, u1, u2, v1, v2⟩ := hs.resolve_left s0
      obtain ⟨x, hx⟩ : ∃ x, at' f 0 = x := ⟨_, rfl⟩
      obtain ⟨y, hy⟩ : ∃ y, at' f 1 = y := ⟨_, rfl⟩
      obtain ⟨u, hu⟩ : ∃ u, at' s 0 = u := ⟨_, rfl⟩
      obtain ⟨v, hv⟩ : ∃ v, at' s 1 = v := ⟨_, rfl⟩
      have hE : addE p a f s = if x = u ∧ (y + v) % p = 0 then [] else
          [(slopeE p a x y u v * slopeE p a x y u v - x - u) % p, (slopeE p a x y u v * (x - (slopeE p a x y u v * slopeE p a x y u v - x - u) % p) - y) % p] := by
        unfold addE; rw [if_neg f0, if_neg s0, hx, hy, hu, hv]
      rw [hE]
      rw [hx] at x1 x2
      rw [hy] at y1 y2
      rw [hu] at u1 u2
      rw [hv] at v1 v2
      have g0 : (intL f).getD 0 .any = .int .i64 x := (intL_getD f 0 (by omega)).trans (congrArg _ hx)
      have g1 : (intL f).getD 1 .any = .int .i64 y := (intL_getD f 1 (by omega)).trans (congrArg _ hy)
      have k0 : (intL s).getD 0 .any = .int .i64 u := (intL_getD s 0 (by omega)).trans (congrArg _ hu)
      have k1 : (intL s).getD 1 .any = .int .i64 v := (intL_getD s 1 (by omega)).trans (congrArg _ hv)
      have b0 : (0 : Int) < (f.length : Int) := by omega
      have b1 : (1 : Int) < (f.length : Int) := by omega
      have b2 : (0 : Int) < (s.length : Int) := by omega
      have b3 : (1 : Int) < (s.length : Int) := by omega
      have w1 := wid (v - y) (by omega) (by omega)
      have w2 := wid (u - x) (by omega) (by omega)
      have hp0 : p ≠ 0 := by omega
      by_cases hxu : x = u
      · have hxu' : (x == u) = true := by simpa using hxu
        by_cases h0 : (y + v) % p = 0
        · rw [if_pos ⟨hxu, h0⟩]
          (repeat (first | ((with_reducible refine rgn_cons rfl (fun K hK => ?_)); simp only [go_sem, seval, ↓reduceIte, decide_true, decide_false, f0', s0', g0, g1, k0, k1, b0, b1, b2, b3, w1, w2, Int.le_refl, Int.toNat_zero, hxu', wid (y + v) (by omega) (by omega), hp0, tm (y + v) p (by omega), h0]; (refine hK _ _ _ (by simp only [go_sem, Nat.reduceEqDiff, ↓reduceIte]; rfl) ?_); clear hK; clear K) | (with_reducible first | refine rgn_nil (by first | trivial | kernel_rfl) ?_ | refine AWP.seq ?_ | refine tX hC hP (by kernel_rfl) ?_ | refine aX hC hM hP (by kernel_rfl) ?_ | refine AWP.skip ?_ | refine AWP.label ?_ | refine AWP.exit ?_ | refine AWP.block ?_ | refine cTa ?_ | refine cFa ?_) | simp only [qS, Nat.reduceEqDiff, ↓reduceIte]))
          (refine AWP.ret ?_; refine retOk1 (by simp only [go_sem, seval, ↓reduceIte, decide_true, decide_false]; rfl) ?_)
          rfl
        · rw [if_neg (fun e => h0 e.2)]
          have h0' : ((y + v) % p == 0) = false := by simpa using h0
          obtain ⟨t, ht⟩ : ∃ t, slopeE p a x y u v = t := ⟨_, rfl⟩
          rw [ht]
          have ht2 : (3 * x * x + a) % p * invL p (2 * y) % p = t := by rw [← ht]; unfold slopeE; rw [if_pos hxu]
          have hI := c_impl_inverse p (2 * y % p) (by omega) (by omega)
          rw [invL_mod] at hI
          have eb := emod_b (3 * x * x + a) p (by omega)
          have iv := invL_bound p (2 * y) (by omega)
          have ei := small_mul h97 eb.1 eb.2 iv.1 iv.2
          have xx := small_mul h97 x1 x2 x1 x2
          have xx3 : 3 * x * x = 3 * (x * x) := Int.mul_assoc _ _ _
          have tb : 0 ≤ t ∧ t < p := ht2 ▸ emod_b _ p (by omega)
          obtain ⟨w, hw⟩ : ∃ w, (t * t - x - u) % p = w := ⟨_, rfl⟩
          have wb : 0 ≤ w ∧ w < p := hw ▸ emod_b _ p (by omega)
          rw [hw]
          have tt := small_mul h97 tb.1 tb.2 tb.1 tb.2
          have tz : -9409 ≤ t * (x - w) ∧ t * (x - w) ≤ 9409 := by
            have q1 := small_mul h97 tb.1 tb.2 x1 x2
            have q2 := small_mul h97 tb.1 tb.2 wb.1 wb.2
            rw [Int.mul_sub]; omega
          (repeat (first | ((with_reducible refine rgn_cons rfl (fun K hK => ?_)); simp only [go_sem, seval, ↓reduceIte, decide_true, decide_false, f0', s0', g0, g1, k0, k1, b0, b1, b2, b3, w1, w2, Int.le_refl, Int.toNat_zero, hxu', wid (y + v) (by omega) (by omega), hp0, tm (y + v) p (by omega), h0', wid (3 * x) (by omega) (by omega), wid (3 * x * x) (by omega) (by omega), wid (3 * x * x + a) (by omega) (by omega), wid (2 * y) (by omega) (by omega), wid ((3 * x * x + a) % p * invL p (2 * y)) (by omega) (by omega), tm ((3 * x * x + a) % p * invL p (2 * y)) p (by omega), ht2, wid (t * t) (by omega) (by omega), wid (t * t - x) (by omega) (by omega), wid (t * t - x - u) (by omega) (by omega), hw, wid (x - w) (by omega) (by omega), wid (t * (x - w)) (by omega) (by omega), wid (t * (x - w) - y) (by omega) (by omega)]; (first | refine hK _ _ _ (by simp only [go_sem, Nat.reduceEqDiff, ↓reduceIte]; rfl) ?_ | refine ⟨_, c_impl_mod (3 * x * x + a) p (by omega) (by omega), hK _ _ _ (by simp only [go_sem, Nat.reduceEqDiff, ↓reduceIte]; rfl) ?_⟩ | refine ⟨_, c_impl_mod (2 * y) p (by omega) (by omega), hK _ _ _ (by simp only [go_sem, Nat.reduceEqDiff, ↓reduceIte]; rfl) ?_⟩ | refine ⟨_, c_impl_mod (t * t - x - u) p (by omega) (by omega), hK _ _ _ (by simp only [go_sem, Nat.reduceEqDiff, ↓reduceIte]; rfl) ?_⟩ | refine ⟨_, c_impl_mod (t * (x - w) - y) p (by omega) (by omega), hK _ _ _ (by simp only [go_sem, Nat.reduceEqDiff, ↓reduceIte]; rfl) ?_⟩ | refine ⟨_, hI, hK _ _ _ (by simp only [go_sem, Nat.reduceEqDiff, ↓reduceIte]; rfl) ?_⟩); clear hK; clear K) | (with_reducible first | refine rgn_nil (by first | trivial | kernel_rfl) ?_ | refine AWP.seq ?_ | refine tX hC hP (by kernel_rfl) ?_ | refine aX hC hM hP (by kernel_rfl) ?_ | refine AWP.skip ?_ | refine AWP.label ?_ | refine AWP.exit ?_ | refine AWP.block ?_ | refine cTa ?_ | refine cFa ?_) | simp only [qS, Nat.reduceEqDiff, ↓reduceIte]))
          (refine AWP.ret ?_; refine retOk1 (by simp only [go_sem, seval, ↓reduceIte, decide_true, decide_false]; rfl) ?_)
          rfl
      · have hxu' : (x == u) = false := by simpa using hxu
        rw [if_neg (fun e => hxu e.1)]
        obtain ⟨t, ht⟩ : ∃ t, slopeE p a x y u v = t := ⟨_, rfl⟩
        rw [ht]
        have ht2 : (v - y) % p * invL p (u - x) % p = t := by rw [← ht]; unfold slopeE; rw [if_neg hxu]
        have hI := c_impl_inverse p ((u - x) % p) (by omega) (by omega)
        rw [invL_mod] at hI
        have eb := emod_b (v - y) p (by omega)
        have iv := invL_bound p (u - x) (by omega)
        have ei := small_mul h97 eb.1 eb.2 iv.1 iv.2
        have tb : 0 ≤ t ∧ t < p := ht2 ▸ emod_b _ p (by omega)
        obtain ⟨w, hw⟩ : ∃ w, (t * t - x - u) % p = w := ⟨_, rfl⟩
        have wb : 0 ≤ w ∧ w < p := hw ▸ emod_b _ p (by omega)
        rw [hw]
        have tt := small_mul h97 tb.1 tb.2 tb.1 tb.2
        have tz : -9409 ≤ t * (x - w) ∧ t * (x - w) ≤ 9409 := by
          have q1 := small_mul h97 tb.1 tb.2 x1 x2
          have q2 := small_mul h97 tb.1 tb.2 wb.1 wb.2
          rw [Int.mul_sub]; omega
        (repeat (first | ((with_reducible refine rgn_cons rfl (fun K hK => ?_)); simp only [go_sem, seval, ↓reduceIte, decide_true, decide_false, f0', s0', g0, g1, k0, k1, b0, b1, b2, b3, w1, w2, Int.le_refl, Int.toNat_zero, hxu', hp0, wid ((v - y) % p * invL p (u - x)) (by omega) (by omega), tm ((v - y) % p * invL p (u - x)) p (by omega), ht2, wid (t * t) (by omega) (by omega), wid (t * t - x) (by omega) (by omega), wid (t * t - x - u) (by omega) (by omega), hw, wid (x - w) (by omega) (by omega), wid (t * (x - w)) (by omega) (by omega), wid (t * (x - w) - y) (by omega) (by omega)]; (first | refine hK _ _ _ (by simp only [go_sem, Nat.reduceEqDiff, ↓reduceIte]; rfl) ?_ | refine ⟨_, c_impl_mod (v - y) p (by omega) (by omega), hK _ _ _ (by simp only [go_sem, Nat.reduceEqDiff, ↓reduceIte]; rfl) ?_⟩ | refine ⟨_, c_impl_mod (u - x) p (by omega) (by omega), hK _ _ _ (by simp only [go_sem, Nat.reduceEqDiff, ↓reduceIte]; rfl) ?_⟩ | refine ⟨_, c_impl_mod (t * t - x - u) p (by omega) (by omega), hK _ _ _ (by simp only [go_sem, Nat.reduceEqDiff, ↓reduceIte]; rfl) ?_⟩ | refine ⟨_, c_impl_mod (t * (x - w) - y) p (by omega) (by omega), hK _ _ _ (by simp only [go_sem, Nat.reduceEqDiff, ↓reduceIte]; rfl) ?_⟩ | refine ⟨_, hI, hK _ _ _ (by simp only [go_sem, Nat.reduceEqDiff, ↓reduceIte]; rfl) ?_⟩); clear hK; clear K) | (with_reducible first | refine rgn_nil (by first | trivial | kernel_rfl) ?_ | refine AWP.seq ?_ | refine tX hC hP (by kernel_rfl) ?_ | refine aX hC hM hP (by kernel_rfl) ?_ | refine AWP.skip ?_ | refine AWP.label ?_ | refine AWP.exit ?_ | refine AWP.block ?_ | refine cTa ?_ | refine cFa ?_) | simp only [qS, Nat.reduceEqDiff, ↓reduceIte]))
        (refine AWP.ret ?_; refine retOk1 (by simp only [go_sem, seval, ↓reduceIte, decide_true, decide_false]; rfl) ?_)
        rfl
end Go.Proofs.Ytoooefcjkmfhoaa
