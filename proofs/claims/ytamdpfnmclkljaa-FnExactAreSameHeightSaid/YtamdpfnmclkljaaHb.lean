/-
  Heights.
-/
import Derived.Test.YtamdpfnmclkljaaHa
namespace Go.Proofs.Ytamdpfnmclkljaa
open Go.RowKit
set_option linter.unusedSimpArgs false
set_option linter.unusedVariables false
set_option linter.unusedSectionVars false
set_option maxRecDepth 20000
-- Heights.
theorem tmodN (x y : Nat) : (x : Int).tmod (y : Int) = ((x % y : Nat) : Int) := by first | rfl | simp
theorem tdivN (x y : Nat) : (x : Int).tdiv (y : Int) = ((x / y : Nat) : Int) := by first | rfl | simp
theorem c_impl_valuation (p h : Nat) (hp : 2 ≤ p) (hp2 : p ≤ 10000) (hb : p ^ h ≤ 1000000) : AFn Try.prog 139 [.int .i64 p, .int .i64 (p ^ h : Nat)] (.int .i64 h) := by
  refine AFn.of' ttOk (by decide) Try.func139 Try.ntmps139 (by rw [Try.results139]) (by rfl) (by rfl) (by simp) (by decide) (by simp only [go_sem, Nat.reduceAdd, ↓reduceIte]; rfl) mixed (fun C hP hM hC => ?_)
  (repeat (first | ((with_reducible refine rgn_cons rfl (fun K hK => ?_)); simp only [go_sem, seval, ↓reduceIte, decide_true, decide_false]; (refine hK _ _ _ (by simp only [go_sem, Nat.reduceEqDiff, ↓reduceIte]; rfl) ?_); clear hK; clear K) | (with_reducible first | refine rgn_nil (by first | trivial | kernel_rfl) ?_ | refine AWP.seq ?_ | refine tX hC hP (by kernel_rfl) ?_ | refine aX hC hM hP (by kernel_rfl) ?_ | refine AWP.skip ?_ | refine AWP.label ?_ | refine AWP.exit ?_ | refine AWP.block ?_ | refine cT (by simp only [go_sem, Nat.reduceEqDiff, ↓reduceIte]; with_reducible rfl) ?_ | refine cF (by simp only [go_sem, Nat.reduceEqDiff, ↓reduceIte]; with_reducible rfl) ?_) | simp only [qS, Nat.reduceEqDiff, ↓reduceIte]))
  refine AWP.loop (fun k : Nat => [(1, ⟨0, .val (.int .i64 (p ^ (h - k) : Nat))⟩), (0, ⟨0, .val (.int .i64 p)⟩), (5, ⟨0, .val (.int .i64 k)⟩)]) (fun k => k ≤ h) (fun k => h - k) 0 (Nat.zero_le _) (fun i => rfl) ?_ (fun k hk => ?_)
  · simp [Sub, lk]
  · have hpow : p ^ (h - k) ≤ p ^ h := Nat.pow_le_pow_right (by omega) (by omega)
    have hlt2 : h < p ^ h := Nat.lt_pow_self (by omega)
    by_cases hlt : k < h
    · have e1 : p ^ (h - k) = p ^ (h - (k + 1)) * p := by rw [← Nat.pow_succ]; congr 1; omega
      have e2 : p ^ (h - k) % p = 0 := by rw [e1, Nat.mul_mod_left]
      have e3 : p ^ (h - k) / p = p ^ (h - (k + 1)) := by rw [e1, Nat.mul_div_cancel _ (by omega)]
      have hpow2 : p ^ (h - (k + 1)) ≤ p ^ h := Nat.pow_le_pow_right (by omega) (by omega)
      (repeat (first | ((with_reducible refine rgn_cons rfl (fun K hK => ?_)); simp only [go_sem, seval, ↓reduceIte, decide_true, decide_false, show (p : Int) ≠ 0 by omega, tmodN, tdivN, e2, e3, Int.natCast_zero, show ((0 : Int) == 0) = true from rfl, wid ((k : Int) + 1) (by omega) (by omega), wid ((p ^ (h - (k + 1)) : Nat) : Int) (by omega) (by omega)]; (refine hK _ _ _ (by simp only [go_sem, Nat.reduceEqDiff, ↓reduceIte]; rfl) ?_); clear hK; clear K) | (with_reducible first | refine rgn_nil (by first | trivial | kernel_rfl) ?_ | refine AWP.seq ?_ | refine tX hC hP (by kernel_rfl) ?_ | refine aX hC hM hP (by kernel_rfl) ?_ | refine AWP.skip ?_ | refine AWP.label ?_ | refine AWP.exit ?_ | refine AWP.block ?_ | refine cT (by simp only [go_sem, Nat.reduceEqDiff, ↓reduceIte]; with_reducible rfl) ?_ | refine cF (by simp only [go_sem, Nat.reduceEqDiff, ↓reduceIte]; with_reducible rfl) ?_) | simp only [qS, Nat.reduceEqDiff, ↓reduceIte]))
      exact ⟨k + 1, hlt, by omega, by simp [Sub, lk]⟩
    · have e : k = h := by omega
      subst e
      have e4 : (1 : Int).tmod (p : Int) = 1 := by
        have h0 := tmodN 1 p
        rw [Nat.mod_eq_of_lt (by omega)] at h0
        exact h0
      (repeat (first | ((with_reducible refine rgn_cons rfl (fun K hK => ?_)); simp only [go_sem, seval, ↓reduceIte, decide_true, decide_false, show (p : Int) ≠ 0 by omega, Nat.sub_self, Nat.pow_zero, Int.natCast_one, e4, show ((1 : Int) == 0) = false from rfl]; (refine hK _ _ _ (by simp only [go_sem, Nat.reduceEqDiff, ↓reduceIte]; rfl) ?_); clear hK; clear K) | (with_reducible first | refine rgn_nil (by first | trivial | kernel_rfl) ?_ | refine AWP.seq ?_ | refine tX hC hP (by kernel_rfl) ?_ | refine aX hC hM hP (by kernel_rfl) ?_ | refine AWP.skip ?_ | refine AWP.label ?_ | refine AWP.exit ?_ | refine AWP.block ?_ | refine cT (by simp only [go_sem, Nat.reduceEqDiff, ↓reduceIte]; with_reducible rfl) ?_ | refine cF (by simp only [go_sem, Nat.reduceEqDiff, ↓reduceIte]; with_reducible rfl) ?_) | simp only [qS, Nat.reduceEqDiff, ↓reduceIte]))
      (refine AWP.ret ?_; first | refine retOk1 (by simp only [go_sem, seval, ↓reduceIte, decide_true, decide_false]; rfl) ?_ | refine retOk2 (by simp only [go_sem, seval, ↓reduceIte, decide_true, decide_false]; rfl) (by simp only [go_sem, seval, ↓reduceIte, decide_true, decide_false]; rfl) (by simp) ?_ | refine retOk3 (by simp only [go_sem, seval, ↓reduceIte, decide_true, decide_false]; rfl) (by simp only [go_sem, seval, ↓reduceIte, decide_true, decide_false]; rfl) (by simp only [go_sem, seval, ↓reduceIte, decide_true, decide_false]; rfl) (by simp) ?_)
      rfl
theorem c_impl_heightOf (p N h d : Nat) (ll : List (List Int)) (hp : 2 ≤ p) (hp2 : p ≤ 10000) (hl : Pl p (d + 1) ll) (hd1 : 1 ≤ d) (hd : d ≤ 10) (H : HtC p d (mzL p (pc ll) d (varL d) p) N h) : AFn Try.prog 88 [.agg [.int .i64 (p : Int), .sl false 26 (rowsF ll)]] (.int .i64 h) := by
  refine AFn.of' ttOk (by decide) Try.func88 Try.ntmps88 (by rw [Try.results88]) (by rfl) (by rfl) (by simp) (by decide) (by simp only [go_sem, Nat.reduceAdd, ↓reduceIte]; rfl) mixed (fun C hP hM hC => ?_)
  have f := mzL_facts (m := (p : Int)) (by omega) (pc ll) d (varL d) p
  have hW := c_impl_Plane_byPrime (p : Int) ll d (by omega) (by omega) hl hd1 hd
  rw [ht_ord f.1 H] at hW
  rcases H with ⟨rfl, rfl, h1⟩ | ⟨h0, rfl, h1, h2, h3⟩
  · rw [Int.natCast_zero] at hW ⊢
    (repeat (first | ((with_reducible refine rgn_cons rfl (fun K hK => ?_)); simp only [go_sem, seval, ↓reduceIte, decide_true, decide_false, show ((0 : Int) == 0) = true from rfl]; (first | refine hK _ _ _ (by simp only [go_sem, Nat.reduceEqDiff, ↓reduceIte]; rfl) ?_ | refine ⟨_, hW, hK _ _ _ (by simp only [go_sem, Nat.reduceEqDiff, ↓reduceIte]; rfl) ?_⟩); clear hK; clear K) | (with_reducible first | refine rgn_nil (by first | trivial | kernel_rfl) ?_ | refine AWP.seq ?_ | refine tX hC hP (by kernel_rfl) ?_ | refine aX hC hM hP (by kernel_rfl) ?_ | refine AWP.skip ?_ | refine AWP.label ?_ | refine AWP.exit ?_ | refine AWP.block ?_ | refine cT (by simp only [go_sem, Nat.reduceEqDiff, ↓reduceIte]; with_reducible rfl) ?_ | refine cF (by simp only [go_sem, Nat.reduceEqDiff, ↓reduceIte]; with_reducible rfl) ?_) | simp only [qS, Nat.reduceEqDiff, ↓reduceIte]))
    (refine AWP.ret ?_; first | refine retOk1 (by simp only [go_sem, seval, ↓reduceIte, decide_true, decide_false]; rfl) ?_ | refine retOk2 (by simp only [go_sem, seval, ↓reduceIte, decide_true, decide_false]; rfl) (by simp only [go_sem, seval, ↓reduceIte, decide_true, decide_false]; rfl) (by simp) ?_ | refine retOk3 (by simp only [go_sem, seval, ↓reduceIte, decide_true, decide_false]; rfl) (by simp only [go_sem, seval, ↓reduceIte, decide_true, decide_false]; rfl) (by simp only [go_sem, seval, ↓reduceIte, decide_true, decide_false]; rfl) (by simp) ?_)
    rfl
  · have hne : ((((p ^ h : Nat) : Int)) == 0) = false := by
      rw [beq_eq_false_iff_ne]
      have := Nat.pow_pos (n := h) (show 0 < p by omega)
      omega
    (repeat (first | ((with_reducible refine rgn_cons rfl (fun K hK => ?_)); simp only [go_sem, seval, ↓reduceIte, decide_true, decide_false, hne]; (first | refine hK _ _ _ (by simp only [go_sem, Nat.reduceEqDiff, ↓reduceIte]; rfl) ?_ | refine ⟨_, hW, hK _ _ _ (by simp only [go_sem, Nat.reduceEqDiff, ↓reduceIte]; rfl) ?_⟩ | refine ⟨_, c_impl_valuation p h hp hp2 (by omega), hK _ _ _ (by simp only [go_sem, Nat.reduceEqDiff, ↓reduceIte]; rfl) ?_⟩); clear hK; clear K) | (with_reducible first | refine rgn_nil (by first | trivial | kernel_rfl) ?_ | refine AWP.seq ?_ | refine tX hC hP (by kernel_rfl) ?_ | refine aX hC hM hP (by kernel_rfl) ?_ | refine AWP.skip ?_ | refine AWP.label ?_ | refine AWP.exit ?_ | refine AWP.block ?_ | refine cT (by simp only [go_sem, Nat.reduceEqDiff, ↓reduceIte]; with_reducible rfl) ?_ | refine cF (by simp only [go_sem, Nat.reduceEqDiff, ↓reduceIte]; with_reducible rfl) ?_) | simp only [qS, Nat.reduceEqDiff, ↓reduceIte]))
    (refine AWP.ret ?_; first | refine retOk1 (by simp only [go_sem, seval, ↓reduceIte, decide_true, decide_false]; rfl) ?_ | refine retOk2 (by simp only [go_sem, seval, ↓reduceIte, decide_true, decide_false]; rfl) (by simp only [go_sem, seval, ↓reduceIte, decide_true, decide_false]; rfl) (by simp) ?_ | refine retOk3 (by simp only [go_sem, seval, ↓reduceIte, decide_true, decide_false]; rfl) (by simp only [go_sem, seval, ↓reduceIte, decide_true, decide_false]; rfl) (by simp only [go_sem, seval, ↓reduceIte, decide_true, decide_false]; rfl) (by simp) ?_)
    rfl
set_option maxHeartbeats 1000000 in
theorem c_spec_l10Height (p N h d : Nat) (ll : List (List Int)) (hp : 2 ≤ p) (hp2 : p ≤ 7) (hl : Pl p (d + 1) ll) (hd1 : 1 ≤ d) (hd : d ≤ 10) (H : HtC p d (mzL p (pc ll) d (varL d) p) N h) : AFn Try.prog 87 [.agg [.int .i64 (p : Int), .sl false 26 (rowsF ll)]] (.tup [.int .i64 h, .sl true 2 (intL (mzL p (pc ll) d (varL d) p))]) := by
  refine AFn.of' ttOk (by decide) Try.func87 Try.ntmps87 (by rw [Try.results87]) (by rfl) (by rfl) (by simp) (by decide) (by simp only [go_sem, Nat.reduceAdd, ↓reduceIte]; rfl) mixed (fun C hP hM hC => ?_)
  have f := mzL_facts (m := (p : Int)) (by omega) (pc ll) d (varL d) p
  have hW := c_spec_l04Of (p : Int) p ll d (by omega) (by omega) hl hd1 (by omega) (by omega) (by omega)
  generalize mzL (p : Int) (pc ll) d (varL d) p = P at *
  have hlen := f.1
  (repeat (first | ((with_reducible refine rgn_cons rfl (fun K hK => ?_)); simp only [go_sem, seval, ↓reduceIte, decide_true, decide_false]; (first | refine hK _ _ _ (by simp only [go_sem, Nat.reduceEqDiff, ↓reduceIte]; rfl) ?_ | refine ⟨_, hW, hK _ _ _ (by simp only [go_sem, Nat.reduceEqDiff, ↓reduceIte]; rfl) ?_⟩); clear hK; clear K) | (with_reducible first | refine rgn_nil (by first | trivial | kernel_rfl) ?_ | refine AWP.seq ?_ | refine tX hC hP (by kernel_rfl) ?_ | refine aX hC hM hP (by kernel_rfl) ?_ | refine AWP.skip ?_ | refine AWP.label ?_ | refine AWP.exit ?_ | refine AWP.block ?_ | refine cT (by simp only [go_sem, Nat.reduceEqDiff, ↓reduceIte]; with_reducible rfl) ?_ | refine cF (by simp only [go_sem, Nat.reduceEqDiff, ↓reduceIte]; with_reducible rfl) ?_) | simp only [qS, Nat.reduceEqDiff, ↓reduceIte]))
  refine AWP.loop (fun k : Nat => [(6, ⟨0, .val (.int .i64 (p ^ (k + 1) : Nat))⟩), (5, ⟨0, .val (.int .i64 ((k : Int) + 1))⟩), (4, ⟨1, .own (.sl true 2 (intL P))⟩), (1, ⟨1, .own (.box 31 (.agg [.int .i64 (p : Int), .sl false 26 (rowsF ll)]))⟩)]) (fun k => p ^ k ≤ d ∧ (h = 0 ∨ k + 1 ≤ h)) (fun k => d - p ^ k) 0 ⟨by rw [Nat.pow_zero]; omega, by rcases H with H | H <;> omega⟩ (fun i => rfl) ?_ (fun k hk => ?_)
  · simp [Sub, lk]
  · have hsucc : p ^ (k + 1) = p ^ k * p := Nat.pow_succ ..
    have hpos := Nat.pow_pos (n := k) (show 0 < p by omega)
    have hb1 : p ^ (k + 1) ≤ 70 := by rw [hsucc]; exact Nat.mul_le_mul (show p ^ k ≤ 10 by omega) hp2
    have hlt1 : p ^ k < p ^ (k + 1) := Nat.pow_lt_pow_right (by omega) (by omega)
    have hkk : k < p ^ k := Nat.lt_pow_self (by omega)
    by_cases hq : p ^ (k + 1) < P.length
    · by_cases hx : at' P (p ^ (k + 1)) = 0
      · have hsucc2 : p ^ (k + 1) * p = p ^ (k + 1 + 1) := (Nat.pow_succ ..).symm
        have hb2 : p ^ (k + 1 + 1) ≤ 70 := by rw [← hsucc2]; exact Nat.mul_le_mul (show p ^ (k + 1) ≤ 10 by omega) hp2
        (repeat (first | ((with_reducible refine rgn_cons rfl (fun K hK => ?_)); simp only [go_sem, seval, ↓reduceIte, decide_true, decide_false, show ((p ^ (k + 1) : Nat) : Int) < (P.length : Int) by omega, decide_true, Int.natCast_nonneg, Int.toNat_natCast, intL_get _ _ hq, sizeL_take _ _ (Nat.le_of_lt hq), Nat.mul_one, show P.getD (p ^ (k + 1)) 0 = at' P (p ^ (k + 1)) from rfl, hx, show ((0 : Int) != 0) = false from rfl, wid ((k : Int) + 1 + 1) (by omega) (by omega), ← Int.natCast_mul, hsucc2, wid ((p ^ (k + 1 + 1) : Nat) : Int) (by omega) (by omega)]; (refine hK _ _ _ (by simp only [go_sem, Nat.reduceEqDiff, ↓reduceIte]; rfl) ?_); clear hK; clear K) | (with_reducible first | refine rgn_nil (by first | trivial | kernel_rfl) ?_ | refine AWP.seq ?_ | refine tX hC hP (by kernel_rfl) ?_ | refine aX hC hM hP (by kernel_rfl) ?_ | refine AWP.skip ?_ | refine AWP.label ?_ | refine AWP.exit ?_ | refine AWP.block ?_ | refine cT (by simp only [go_sem, Nat.reduceEqDiff, ↓reduceIte]; with_reducible rfl) ?_ | refine cF (by simp only [go_sem, Nat.reduceEqDiff, ↓reduceIte]; with_reducible rfl) ?_) | simp only [qS, Nat.reduceEqDiff, ↓reduceIte]))
        refine ⟨k + 1, ⟨by omega, ?_⟩, by omega, by simp [Sub, lk]⟩
        rcases H with ⟨_, h0, _⟩ | ⟨h0, h1, h2, h3, h4⟩
        · exact .inl h0
        · right
          rcases hk.2 with e | e
          · omega
          · by_cases e2 : k + 1 = h
            · rw [e2, ← h1] at hx; exact absurd hx h3
            · omega
      · have hh : h = k + 1 := by
          rcases H with ⟨_, _, h0⟩ | ⟨h0, h1, h2, h3, h4⟩
          · exact absurd (h0 _) hx
          · rcases hk.2 with e | e
            · omega
            · refine Classical.byContradiction fun e2 => hx (h4 _ ?_)
              rw [h1]
              exact Nat.pow_lt_pow_right (by omega) (by omega)
        (repeat (first | ((with_reducible refine rgn_cons rfl (fun K hK => ?_)); simp only [go_sem, seval, ↓reduceIte, decide_true, decide_false, show ((p ^ (k + 1) : Nat) : Int) < (P.length : Int) by omega, decide_true, Int.natCast_nonneg, Int.toNat_natCast, intL_get _ _ hq, sizeL_take _ _ (Nat.le_of_lt hq), Nat.mul_one, show P.getD (p ^ (k + 1)) 0 = at' P (p ^ (k + 1)) from rfl, show (at' P (p ^ (k + 1)) != 0) = true by simpa using hx]; (refine hK _ _ _ (by simp only [go_sem, Nat.reduceEqDiff, ↓reduceIte]; rfl) ?_); clear hK; clear K) | (with_reducible first | refine rgn_nil (by first | trivial | kernel_rfl) ?_ | refine AWP.seq ?_ | refine tX hC hP (by kernel_rfl) ?_ | refine aX hC hM hP (by kernel_rfl) ?_ | refine AWP.skip ?_ | refine AWP.label ?_ | refine AWP.exit ?_ | refine AWP.block ?_ | refine cT (by simp only [go_sem, Nat.reduceEqDiff, ↓reduceIte]; with_reducible rfl) ?_ | refine cF (by simp only [go_sem, Nat.reduceEqDiff, ↓reduceIte]; with_reducible rfl) ?_) | simp only [qS, Nat.reduceEqDiff, ↓reduceIte]))
        (refine AWP.ret ?_; first | refine retOk1 (by simp only [go_sem, seval, ↓reduceIte, decide_true, decide_false]; rfl) ?_ | refine retOk2 (by simp only [go_sem, seval, ↓reduceIte, decide_true, decide_false]; rfl) (by simp only [go_sem, seval, ↓reduceIte, decide_true, decide_false]; rfl) (by simp) ?_ | refine retOk3 (by simp only [go_sem, seval, ↓reduceIte, decide_true, decide_false]; rfl) (by simp only [go_sem, seval, ↓reduceIte, decide_true, decide_false]; rfl) (by simp only [go_sem, seval, ↓reduceIte, decide_true, decide_false]; rfl) (by simp) ?_)
        rw [hh]; rfl
    · have hh : h = 0 := by
        rcases H with ⟨_, h0, _⟩ | ⟨h0, h1, h2, h3, h4⟩
        · exact h0
        · rcases hk.2 with e | e
          · exact e
          · have := Nat.pow_le_pow_right (n := p) (by omega) e
            omega
      (repeat (first | ((with_reducible refine rgn_cons rfl (fun K hK => ?_)); simp only [go_sem, seval, ↓reduceIte, decide_true, decide_false, show ¬ ((p ^ (k + 1) : Nat) : Int) < (P.length : Int) by omega, decide_false]; (refine hK _ _ _ (by simp only [go_sem, Nat.reduceEqDiff, ↓reduceIte]; rfl) ?_); clear hK; clear K) | (with_reducible first | refine rgn_nil (by first | trivial | kernel_rfl) ?_ | refine AWP.seq ?_ | refine tX hC hP (by kernel_rfl) ?_ | refine aX hC hM hP (by kernel_rfl) ?_ | refine AWP.skip ?_ | refine AWP.label ?_ | refine AWP.exit ?_ | refine AWP.block ?_ | refine cT (by simp only [go_sem, Nat.reduceEqDiff, ↓reduceIte]; with_reducible rfl) ?_ | refine cF (by simp only [go_sem, Nat.reduceEqDiff, ↓reduceIte]; with_reducible rfl) ?_) | simp only [qS, Nat.reduceEqDiff, ↓reduceIte]))
      (refine AWP.ret ?_; first | refine retOk1 (by simp only [go_sem, seval, ↓reduceIte, decide_true, decide_false]; rfl) ?_ | refine retOk2 (by simp only [go_sem, seval, ↓reduceIte, decide_true, decide_false]; rfl) (by simp only [go_sem, seval, ↓reduceIte, decide_true, decide_false]; rfl) (by simp) ?_ | refine retOk3 (by simp only [go_sem, seval, ↓reduceIte, decide_true, decide_false]; rfl) (by simp only [go_sem, seval, ↓reduceIte, decide_true, decide_false]; rfl) (by simp only [go_sem, seval, ↓reduceIte, decide_true, decide_false]; rfl) (by simp) ?_)
      rw [hh]; rfl
/-- The code and the value of the height. -/
noncomputable def hgC (m : Int) (ll : List (List Int)) : Int := if htC m ll = 0 then (if (htX m ll).2 = 0 then 4 else 0) else htC m ll
noncomputable def hgV (m : Int) (ll : List (List Int)) : Int := if htC m ll = 0 then ((htX m ll).2 : Int) else 0
theorem lw_prime {m : Int} {ll : List (List Int)} (h : htC m ll = 0) : ∃ p d : Nat, m = (p : Int) ∧ 2 ≤ p ∧ p ≤ 7 ∧ 1 ≤ d ∧ d ≤ 10 ∧ ll.length = d + 1 ∧ Pl (p : Int) (d + 1) ll ∧ pmL m ll = mzL (p : Int) (pc ll) d (varL d) p ∧ HtC p d (mzL (p : Int) (pc ll) d (varL d) p) (htX m ll).1 (htX m ll).2 ∧ lawB m ll = true ∧ prB m = true := by
  have hz := htC_zero h
  obtain ⟨d, h1, h2, h3, h4, h5, h6, h7⟩ := lw_of hz.1
  have hpr := prB_of hz.2
  have hH := htX_ok hz.1 hz.2
  have e : ((m.toNat : Nat) : Int) = m := by omega
  have e2 : pmL m ll = mzL m (pc ll) d (varL d) m := by unfold pmL; rw [show ll.length - 1 = d by omega]
  refine ⟨m.toNat, d, by omega, by omega, by omega, h1, h2, h3, by rw [e]; exact h6, by rw [e]; exact e2, ?_, hz.1, hz.2⟩
  rw [e, ← e2]
  rw [show ll.length - 1 = d by omega] at hH
  exact hH
theorem ht_pos {p d : Nat} {P : List Int} {N h : Nat} (hp : 2 ≤ p) (H : HtC p d P N h) : (N = 0 ↔ h = 0) := by
  rcases H with ⟨h1, h2, _⟩ | ⟨h0, h1, _⟩
  · omega
  · have := Nat.pow_pos (n := h) (show 0 < p by omega)
    omega
theorem c_spec_HeightOf (m : Int) (ll : List (List Int)) (hs : Sm ll) : AFn Try.prog 36 [.agg [.int .i64 m, .sl false 26 (rowsF ll)]] (.tup [.int .i64 (hgV m ll), .int .i64 (hgC m ll)]) := by
  refine AFn.of' ttOk (by decide) Try.func36 Try.ntmps36 (by rw [Try.results36]) (by rfl) (by rfl) (by simp) (by decide) (by simp only [go_sem, Nat.reduceAdd, ↓reduceIte]; rfl) mixed (fun C hP hM hC => ?_)
  have hA := c_spec_l10Code m ll hs
  by_cases hc : htC m ll = 0
  · obtain ⟨p, d, h1, h2, h3, h4, h5, h6, h7, h8, h9, _, _⟩ := lw_prime hc
    have hV : hgV m ll = (htX m ll).2 := if_pos hc
    have hX := c_spec_l10Height p (htX m ll).1 (htX m ll).2 d ll h2 h3 h7 h4 h5 h9
    rw [← h1] at hX
    by_cases h0 : (htX m ll).2 = 0
    · have e : hgC m ll = 4 := by simp [hgC, hc, h0]
      rw [hV, e]
      rw [h0] at hX ⊢
      rw [Int.natCast_zero] at hX ⊢
      (repeat (first | ((with_reducible refine rgn_cons rfl (fun K hK => ?_)); simp only [go_sem, seval, ↓reduceIte, decide_true, decide_false, hc, show ((0 : Int) != 0) = false from rfl, show ((0 : Int) == 0) = true from rfl]; (first | refine hK _ _ _ (by simp only [go_sem, Nat.reduceEqDiff, ↓reduceIte]; rfl) ?_ | refine ⟨_, hA, hK _ _ _ (by simp only [go_sem, Nat.reduceEqDiff, ↓reduceIte]; rfl) ?_⟩ | refine ⟨_, hX, hK _ _ _ (by simp only [go_sem, Nat.reduceEqDiff, ↓reduceIte]; rfl) ?_⟩); clear hK; clear K) | (with_reducible first | refine rgn_nil (by first | trivial | kernel_rfl) ?_ | refine AWP.seq ?_ | refine tX hC hP (by kernel_rfl) ?_ | refine aX hC hM hP (by kernel_rfl) ?_ | refine AWP.skip ?_ | refine AWP.label ?_ | refine AWP.exit ?_ | refine AWP.block ?_ | refine cT (by simp only [go_sem, Nat.reduceEqDiff, ↓reduceIte]; with_reducible rfl) ?_ | refine cF (by simp only [go_sem, Nat.reduceEqDiff, ↓reduceIte]; with_reducible rfl) ?_) | simp only [qS, Nat.reduceEqDiff, ↓reduceIte]))
      (refine AWP.ret ?_; first | refine retOk1 (by simp only [go_sem, seval, ↓reduceIte, decide_true, decide_false]; rfl) ?_ | refine retOk2 (by simp only [go_sem, seval, ↓reduceIte, decide_true, decide_false]; rfl) (by simp only [go_sem, seval, ↓reduceIte, decide_true, decide_false]; rfl) (by simp) ?_ | refine retOk3 (by simp only [go_sem, seval, ↓reduceIte, decide_true, decide_false]; rfl) (by simp only [go_sem, seval, ↓reduceIte, decide_true, decide_false]; rfl) (by simp only [go_sem, seval, ↓reduceIte, decide_true, decide_false]; rfl) (by simp) ?_)
      rfl
    · have e : hgC m ll = 0 := by simp [hgC, hc, h0]
      rw [hV, e]
      (repeat (first | ((with_reducible refine rgn_cons rfl (fun K hK => ?_)); simp only [go_sem, seval, ↓reduceIte, decide_true, decide_false, hc, show ((0 : Int) != 0) = false from rfl, show (((htX m ll).2 : Int) == 0) = false by rw [beq_eq_false_iff_ne]; omega]; (first | refine hK _ _ _ (by simp only [go_sem, Nat.reduceEqDiff, ↓reduceIte]; rfl) ?_ | refine ⟨_, hA, hK _ _ _ (by simp only [go_sem, Nat.reduceEqDiff, ↓reduceIte]; rfl) ?_⟩ | refine ⟨_, hX, hK _ _ _ (by simp only [go_sem, Nat.reduceEqDiff, ↓reduceIte]; rfl) ?_⟩); clear hK; clear K) | (with_reducible first | refine rgn_nil (by first | trivial | kernel_rfl) ?_ | refine AWP.seq ?_ | refine tX hC hP (by kernel_rfl) ?_ | refine aX hC hM hP (by kernel_rfl) ?_ | refine AWP.skip ?_ | refine AWP.label ?_ | refine AWP.exit ?_ | refine AWP.block ?_ | refine cT (by simp only [go_sem, Nat.reduceEqDiff, ↓reduceIte]; with_reducible rfl) ?_ | refine cF (by simp only [go_sem, Nat.reduceEqDiff, ↓reduceIte]; with_reducible rfl) ?_) | simp only [qS, Nat.reduceEqDiff, ↓reduceIte]))
      (refine AWP.ret ?_; first | refine retOk1 (by simp only [go_sem, seval, ↓reduceIte, decide_true, decide_false]; rfl) ?_ | refine retOk2 (by simp only [go_sem, seval, ↓reduceIte, decide_true, decide_false]; rfl) (by simp only [go_sem, seval, ↓reduceIte, decide_true, decide_false]; rfl) (by simp) ?_ | refine retOk3 (by simp only [go_sem, seval, ↓reduceIte, decide_true, decide_false]; rfl) (by simp only [go_sem, seval, ↓reduceIte, decide_true, decide_false]; rfl) (by simp only [go_sem, seval, ↓reduceIte, decide_true, decide_false]; rfl) (by simp) ?_)
      rfl
  · have e : hgC m ll = htC m ll := if_neg hc
    have hV : hgV m ll = 0 := if_neg hc
    (repeat (first | ((with_reducible refine rgn_cons rfl (fun K hK => ?_)); simp only [go_sem, seval, ↓reduceIte, decide_true, decide_false, show (htC m ll != 0) = true by simpa using hc]; (first | refine hK _ _ _ (by simp only [go_sem, Nat.reduceEqDiff, ↓reduceIte]; rfl) ?_ | refine ⟨_, hA, hK _ _ _ (by simp only [go_sem, Nat.reduceEqDiff, ↓reduceIte]; rfl) ?_⟩); clear hK; clear K) | (with_reducible first | refine rgn_nil (by first | trivial | kernel_rfl) ?_ | refine AWP.seq ?_ | refine tX hC hP (by kernel_rfl) ?_ | refine aX hC hM hP (by kernel_rfl) ?_ | refine AWP.skip ?_ | refine AWP.label ?_ | refine AWP.exit ?_ | refine AWP.block ?_ | refine cT (by simp only [go_sem, Nat.reduceEqDiff, ↓reduceIte]; with_reducible rfl) ?_ | refine cF (by simp only [go_sem, Nat.reduceEqDiff, ↓reduceIte]; with_reducible rfl) ?_) | simp only [qS, Nat.reduceEqDiff, ↓reduceIte]))
    (refine AWP.ret ?_; first | refine retOk1 (by simp only [go_sem, seval, ↓reduceIte, decide_true, decide_false]; rfl) ?_ | refine retOk2 (by simp only [go_sem, seval, ↓reduceIte, decide_true, decide_false]; rfl) (by simp only [go_sem, seval, ↓reduceIte, decide_true, decide_false]; rfl) (by simp) ?_ | refine retOk3 (by simp only [go_sem, seval, ↓reduceIte, decide_true, decide_false]; rfl) (by simp only [go_sem, seval, ↓reduceIte, decide_true, decide_false]; rfl) (by simp only [go_sem, seval, ↓reduceIte, decide_true, decide_false]; rfl) (by simp) ?_)
    rw [hV, e]
theorem c_impl_HeightOf (m : Int) (ll : List (List Int)) (hs : Sm ll) : AFn Try.prog 37 [.agg [.int .i64 m, .sl false 26 (rowsF ll)]] (.tup [.int .i64 (hgV m ll), .int .i64 (hgC m ll)]) := by
  refine AFn.of' ttOk (by decide) Try.func37 Try.ntmps37 (by rw [Try.results37]) (by rfl) (by rfl) (by simp) (by decide) (by simp only [go_sem, Nat.reduceAdd, ↓reduceIte]; rfl) mixed (fun C hP hM hC => ?_)
  have hA := c_impl_heighted m ll hs
  by_cases hc : htC m ll = 0
  · obtain ⟨p, d, h1, h2, h3, h4, h5, h6, h7, h8, h9, _, _⟩ := lw_prime hc
    have hV : hgV m ll = (htX m ll).2 := if_pos hc
    have hX := c_impl_heightOf p (htX m ll).1 (htX m ll).2 d ll h2 (by omega) h7 h4 h5 h9
    rw [← h1] at hX
    by_cases h0 : (htX m ll).2 = 0
    · have e : hgC m ll = 4 := by simp [hgC, hc, h0]
      rw [hV, e]
      rw [h0] at hX ⊢
      rw [Int.natCast_zero] at hX ⊢
      (repeat (first | ((with_reducible refine rgn_cons rfl (fun K hK => ?_)); simp only [go_sem, seval, ↓reduceIte, decide_true, decide_false, hc, show ((0 : Int) != 0) = false from rfl, show ((0 : Int) == 0) = true from rfl]; (first | refine hK _ _ _ (by simp only [go_sem, Nat.reduceEqDiff, ↓reduceIte]; rfl) ?_ | refine ⟨_, hA, hK _ _ _ (by simp only [go_sem, Nat.reduceEqDiff, ↓reduceIte]; rfl) ?_⟩ | refine ⟨_, hX, hK _ _ _ (by simp only [go_sem, Nat.reduceEqDiff, ↓reduceIte]; rfl) ?_⟩); clear hK; clear K) | (with_reducible first | refine rgn_nil (by first | trivial | kernel_rfl) ?_ | refine AWP.seq ?_ | refine tX hC hP (by kernel_rfl) ?_ | refine aX hC hM hP (by kernel_rfl) ?_ | refine AWP.skip ?_ | refine AWP.label ?_ | refine AWP.exit ?_ | refine AWP.block ?_ | refine cT (by simp only [go_sem, Nat.reduceEqDiff, ↓reduceIte]; with_reducible rfl) ?_ | refine cF (by simp only [go_sem, Nat.reduceEqDiff, ↓reduceIte]; with_reducible rfl) ?_) | simp only [qS, Nat.reduceEqDiff, ↓reduceIte]))
      (refine AWP.ret ?_; first | refine retOk1 (by simp only [go_sem, seval, ↓reduceIte, decide_true, decide_false]; rfl) ?_ | refine retOk2 (by simp only [go_sem, seval, ↓reduceIte, decide_true, decide_false]; rfl) (by simp only [go_sem, seval, ↓reduceIte, decide_true, decide_false]; rfl) (by simp) ?_ | refine retOk3 (by simp only [go_sem, seval, ↓reduceIte, decide_true, decide_false]; rfl) (by simp only [go_sem, seval, ↓reduceIte, decide_true, decide_false]; rfl) (by simp only [go_sem, seval, ↓reduceIte, decide_true, decide_false]; rfl) (by simp) ?_)
      rfl
    · have e : hgC m ll = 0 := by simp [hgC, hc, h0]
      rw [hV, e]
      (repeat (first | ((with_reducible refine rgn_cons rfl (fun K hK => ?_)); simp only [go_sem, seval, ↓reduceIte, decide_true, decide_false, hc, show ((0 : Int) != 0) = false from rfl, show (((htX m ll).2 : Int) == 0) = false by rw [beq_eq_false_iff_ne]; omega]; (first | refine hK _ _ _ (by simp only [go_sem, Nat.reduceEqDiff, ↓reduceIte]; rfl) ?_ | refine ⟨_, hA, hK _ _ _ (by simp only [go_sem, Nat.reduceEqDiff, ↓reduceIte]; rfl) ?_⟩ | refine ⟨_, hX, hK _ _ _ (by simp only [go_sem, Nat.reduceEqDiff, ↓reduceIte]; rfl) ?_⟩); clear hK; clear K) | (with_reducible first | refine rgn_nil (by first | trivial | kernel_rfl) ?_ | refine AWP.seq ?_ | refine tX hC hP (by kernel_rfl) ?_ | refine aX hC hM hP (by kernel_rfl) ?_ | refine AWP.skip ?_ | refine AWP.label ?_ | refine AWP.exit ?_ | refine AWP.block ?_ | refine cT (by simp only [go_sem, Nat.reduceEqDiff, ↓reduceIte]; with_reducible rfl) ?_ | refine cF (by simp only [go_sem, Nat.reduceEqDiff, ↓reduceIte]; with_reducible rfl) ?_) | simp only [qS, Nat.reduceEqDiff, ↓reduceIte]))
      (refine AWP.ret ?_; first | refine retOk1 (by simp only [go_sem, seval, ↓reduceIte, decide_true, decide_false]; rfl) ?_ | refine retOk2 (by simp only [go_sem, seval, ↓reduceIte, decide_true, decide_false]; rfl) (by simp only [go_sem, seval, ↓reduceIte, decide_true, decide_false]; rfl) (by simp) ?_ | refine retOk3 (by simp only [go_sem, seval, ↓reduceIte, decide_true, decide_false]; rfl) (by simp only [go_sem, seval, ↓reduceIte, decide_true, decide_false]; rfl) (by simp only [go_sem, seval, ↓reduceIte, decide_true, decide_false]; rfl) (by simp) ?_)
      rfl
  · have e : hgC m ll = htC m ll := if_neg hc
    have hV : hgV m ll = 0 := if_neg hc
    (repeat (first | ((with_reducible refine rgn_cons rfl (fun K hK => ?_)); simp only [go_sem, seval, ↓reduceIte, decide_true, decide_false, show (htC m ll != 0) = true by simpa using hc]; (first | refine hK _ _ _ (by simp only [go_sem, Nat.reduceEqDiff, ↓reduceIte]; rfl) ?_ | refine ⟨_, hA, hK _ _ _ (by simp only [go_sem, Nat.reduceEqDiff, ↓reduceIte]; rfl) ?_⟩); clear hK; clear K) | (with_reducible first | refine rgn_nil (by first | trivial | kernel_rfl) ?_ | refine AWP.seq ?_ | refine tX hC hP (by kernel_rfl) ?_ | refine aX hC hM hP (by kernel_rfl) ?_ | refine AWP.skip ?_ | refine AWP.label ?_ | refine AWP.exit ?_ | refine AWP.block ?_ | refine cT (by simp only [go_sem, Nat.reduceEqDiff, ↓reduceIte]; with_reducible rfl) ?_ | refine cF (by simp only [go_sem, Nat.reduceEqDiff, ↓reduceIte]; with_reducible rfl) ?_) | simp only [qS, Nat.reduceEqDiff, ↓reduceIte]))
    (refine AWP.ret ?_; first | refine retOk1 (by simp only [go_sem, seval, ↓reduceIte, decide_true, decide_false]; rfl) ?_ | refine retOk2 (by simp only [go_sem, seval, ↓reduceIte, decide_true, decide_false]; rfl) (by simp only [go_sem, seval, ↓reduceIte, decide_true, decide_false]; rfl) (by simp) ?_ | refine retOk3 (by simp only [go_sem, seval, ↓reduceIte, decide_true, decide_false]; rfl) (by simp only [go_sem, seval, ↓reduceIte, decide_true, decide_false]; rfl) (by simp only [go_sem, seval, ↓reduceIte, decide_true, decide_false]; rfl) (by simp) ?_)
    rw [hV, e]
end Go.Proofs.Ytamdpfnmclkljaa
