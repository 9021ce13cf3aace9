/-
  The series of a law; ranks.
-/
import Derived.Test.YtamdpfnmclkljaaHb
namespace Go.Proofs.Ytamdpfnmclkljaa
open Go.RowKit
set_option linter.unusedSimpArgs false
set_option linter.unusedVariables false
set_option linter.unusedSectionVars false
set_option maxRecDepth 20000
-- The series of a law; ranks.
def serH (P : List Int) (N d : Nat) : List Int := if N = 0 then [] else tab (d / N) (fun k => at' P ((k + 1) * N))
set_option maxHeartbeats 1000000 in
theorem c_spec_l10Series (p N h d : Nat) (ll : List (List Int)) (hp : 2 ≤ p) (hp2 : p ≤ 7) (hl : Pl p (d + 1) ll) (hd1 : 1 ≤ d) (hd : d ≤ 10) (H : HtC p d (mzL p (pc ll) d (varL d) p) N h) : AFn Try.prog 89 [.agg [.int .i64 (p : Int), .sl false 26 (rowsF ll)]] (.sl true 2 (intL (serH (mzL p (pc ll) d (varL d) p) N d))) := by
  refine AFn.of' ttOk (by decide) Try.func89 Try.ntmps89 (by rw [Try.results89]) (by rfl) (by rfl) (by simp) (by decide) (by simp only [go_sem, Nat.reduceAdd, ↓reduceIte]; rfl) mixed (fun C hP hM hC => ?_)
  have f := mzL_facts (m := (p : Int)) (by omega) (pc ll) d (varL d) p
  have hW := c_spec_l10Height p N h d ll hp hp2 hl hd1 hd H
  generalize mzL (p : Int) (pc ll) d (varL d) p = P at *
  have hlen := f.1
  rcases H with ⟨h1, h2, _⟩ | ⟨h0, h1, h2, _, _⟩
  · subst h1; subst h2
    rw [Int.natCast_zero] at hW
    (repeat (first | ((with_reducible refine rgn_cons rfl (fun K hK => ?_)); simp only [go_sem, seval, ↓reduceIte, decide_true, decide_false]; (first | refine hK _ _ _ (by simp only [go_sem, Nat.reduceEqDiff, ↓reduceIte]; rfl) ?_ | refine ⟨_, hW, hK _ _ _ (by simp only [go_sem, Nat.reduceEqDiff, ↓reduceIte]; rfl) ?_⟩); clear hK; clear K) | (with_reducible first | refine rgn_nil (by first | trivial | kernel_rfl) ?_ | refine AWP.seq ?_ | refine tX hC hP (by kernel_rfl) ?_ | refine aX hC hM hP (by kernel_rfl) ?_ | refine AWP.skip ?_ | refine AWP.label ?_ | refine AWP.exit ?_ | refine AWP.block ?_ | refine cT (by simp only [go_sem, Nat.reduceEqDiff, ↓reduceIte]; with_reducible rfl) ?_ | refine cF (by simp only [go_sem, Nat.reduceEqDiff, ↓reduceIte]; with_reducible rfl) ?_) | simp only [qS, Nat.reduceEqDiff, ↓reduceIte]))
    refine AWP.loop (fun k : Nat => [(7, ⟨0, .val (.int .i64 0)⟩), (5, ⟨0, .val (.int .i64 1)⟩), (3, ⟨0, .val (.int .i64 0)⟩), (4, ⟨1, .own (.sl true 2 (intL P))⟩), (6, ⟨1, .own (.sl true 2 (intL []))⟩)]) (fun k => True) (fun k => 0) 0 trivial (fun i => rfl) ?_ (fun k hk => ?_)
    · simp [Sub, lk, intL]
    · (repeat (first | ((with_reducible refine rgn_cons rfl (fun K hK => ?_)); simp only [go_sem, seval, ↓reduceIte, decide_true, decide_false, show ¬ (0 : Int) < 0 by decide, decide_false]; (refine hK _ _ _ (by simp only [go_sem, Nat.reduceEqDiff, ↓reduceIte]; rfl) ?_); clear hK; clear K) | (with_reducible first | refine rgn_nil (by first | trivial | kernel_rfl) ?_ | refine AWP.seq ?_ | refine tX hC hP (by kernel_rfl) ?_ | refine aX hC hM hP (by kernel_rfl) ?_ | refine AWP.skip ?_ | refine AWP.label ?_ | refine AWP.exit ?_ | refine AWP.block ?_ | refine cT (by simp only [go_sem, Nat.reduceEqDiff, ↓reduceIte]; with_reducible rfl) ?_ | refine cF (by simp only [go_sem, Nat.reduceEqDiff, ↓reduceIte]; with_reducible rfl) ?_) | simp only [qS, Nat.reduceEqDiff, ↓reduceIte]))
      refine AWP.loop (fun k : Nat => [(8, ⟨0, .val (.int .i64 1)⟩), (3, ⟨0, .val (.int .i64 0)⟩), (4, ⟨1, .own (.sl true 2 (intL P))⟩), (6, ⟨1, .own (.sl true 2 (intL []))⟩)]) (fun k => True) (fun k => 0) 0 trivial (fun i => rfl) ?_ (fun k hk => ?_)
      · simp [Sub, lk]
      · (repeat (first | ((with_reducible refine rgn_cons rfl (fun K hK => ?_)); simp only [go_sem, seval, ↓reduceIte, decide_true, decide_false, show ¬ (0 : Int) < 0 by decide, decide_false]; (refine hK _ _ _ (by simp only [go_sem, Nat.reduceEqDiff, ↓reduceIte]; rfl) ?_); clear hK; clear K) | (with_reducible first | refine rgn_nil (by first | trivial | kernel_rfl) ?_ | refine AWP.seq ?_ | refine tX hC hP (by kernel_rfl) ?_ | refine aX hC hM hP (by kernel_rfl) ?_ | refine AWP.skip ?_ | refine AWP.label ?_ | refine AWP.exit ?_ | refine AWP.block ?_ | refine cT (by simp only [go_sem, Nat.reduceEqDiff, ↓reduceIte]; with_reducible rfl) ?_ | refine cF (by simp only [go_sem, Nat.reduceEqDiff, ↓reduceIte]; with_reducible rfl) ?_) | simp only [qS, Nat.reduceEqDiff, ↓reduceIte]))
        (refine AWP.ret ?_; first | refine retOk1 (by simp only [go_sem, seval, ↓reduceIte, decide_true, decide_false]; rfl) ?_ | refine retOk2 (by simp only [go_sem, seval, ↓reduceIte, decide_true, decide_false]; rfl) (by simp only [go_sem, seval, ↓reduceIte, decide_true, decide_false]; rfl) (by simp) ?_ | refine retOk3 (by simp only [go_sem, seval, ↓reduceIte, decide_true, decide_false]; rfl) (by simp only [go_sem, seval, ↓reduceIte, decide_true, decide_false]; rfl) (by simp only [go_sem, seval, ↓reduceIte, decide_true, decide_false]; rfl) (by simp) ?_)
        rfl
  · have hN : p ^ h = N := h1.symm
    have hh : h < p ^ h := Nat.lt_pow_self (by omega)
    have hN1 : 0 < N := by rw [← hN]; exact Nat.pow_pos (by omega)
    (repeat (first | ((with_reducible refine rgn_cons rfl (fun K hK => ?_)); simp only [go_sem, seval, ↓reduceIte, decide_true, decide_false]; (first | refine hK _ _ _ (by simp only [go_sem, Nat.reduceEqDiff, ↓reduceIte]; rfl) ?_ | refine ⟨_, hW, hK _ _ _ (by simp only [go_sem, Nat.reduceEqDiff, ↓reduceIte]; rfl) ?_⟩); clear hK; clear K) | (with_reducible first | refine rgn_nil (by first | trivial | kernel_rfl) ?_ | refine AWP.seq ?_ | refine tX hC hP (by kernel_rfl) ?_ | refine aX hC hM hP (by kernel_rfl) ?_ | refine AWP.skip ?_ | refine AWP.label ?_ | refine AWP.exit ?_ | refine AWP.block ?_ | refine cT (by simp only [go_sem, Nat.reduceEqDiff, ↓reduceIte]; with_reducible rfl) ?_ | refine cF (by simp only [go_sem, Nat.reduceEqDiff, ↓reduceIte]; with_reducible rfl) ?_) | simp only [qS, Nat.reduceEqDiff, ↓reduceIte]))
    refine AWP.loop (fun k : Nat => [(7, ⟨0, .val (.int .i64 k)⟩), (5, ⟨0, .val (.int .i64 (p ^ k : Nat))⟩), (3, ⟨0, .val (.int .i64 h)⟩), (4, ⟨1, .own (.sl true 2 (intL P))⟩), (6, ⟨1, .own (.sl true 2 (intL []))⟩), (1, ⟨1, .own (.box 31 (.agg [.int .i64 (p : Int), .sl false 26 (rowsF ll)]))⟩)]) (fun k => k ≤ h) (fun k => h - k) 0 (Nat.zero_le _) (fun i => rfl) ?_ (fun k hk => ?_)
    · simp [Sub, lk, intL]
    · by_cases hlt : k < h
      · have hsucc : p ^ k * p = p ^ (k + 1) := (Nat.pow_succ ..).symm
        have hb1 : p ^ (k + 1) ≤ p ^ h := Nat.pow_le_pow_right (by omega) hlt
        (repeat (first | ((with_reducible refine rgn_cons rfl (fun K hK => ?_)); simp only [go_sem, seval, ↓reduceIte, decide_true, decide_false, show (k : Int) < (h : Int) by omega, decide_true, ← Int.natCast_mul, hsucc, wid ((p ^ (k + 1) : Nat) : Int) (by omega) (by omega), wid ((k : Int) + 1) (by omega) (by omega)]; (refine hK _ _ _ (by simp only [go_sem, Nat.reduceEqDiff, ↓reduceIte]; rfl) ?_); clear hK; clear K) | (with_reducible first | refine rgn_nil (by first | trivial | kernel_rfl) ?_ | refine AWP.seq ?_ | refine tX hC hP (by kernel_rfl) ?_ | refine aX hC hM hP (by kernel_rfl) ?_ | refine AWP.skip ?_ | refine AWP.label ?_ | refine AWP.exit ?_ | refine AWP.block ?_ | refine cT (by simp only [go_sem, Nat.reduceEqDiff, ↓reduceIte]; with_reducible rfl) ?_ | refine cF (by simp only [go_sem, Nat.reduceEqDiff, ↓reduceIte]; with_reducible rfl) ?_) | simp only [qS, Nat.reduceEqDiff, ↓reduceIte]))
        exact ⟨k + 1, hlt, by omega, by simp [Sub, lk]⟩
      · have e : k = h := by omega
        subst e
        (repeat (first | ((with_reducible refine rgn_cons rfl (fun K hK => ?_)); simp only [go_sem, seval, ↓reduceIte, decide_true, decide_false, show ¬ (k : Int) < (k : Int) by omega, decide_false, hN]; (refine hK _ _ _ (by simp only [go_sem, Nat.reduceEqDiff, ↓reduceIte]; rfl) ?_); clear hK; clear K) | (with_reducible first | refine rgn_nil (by first | trivial | kernel_rfl) ?_ | refine AWP.seq ?_ | refine tX hC hP (by kernel_rfl) ?_ | refine aX hC hM hP (by kernel_rfl) ?_ | refine AWP.skip ?_ | refine AWP.label ?_ | refine AWP.exit ?_ | refine AWP.block ?_ | refine cT (by simp only [go_sem, Nat.reduceEqDiff, ↓reduceIte]; with_reducible rfl) ?_ | refine cF (by simp only [go_sem, Nat.reduceEqDiff, ↓reduceIte]; with_reducible rfl) ?_) | simp only [qS, Nat.reduceEqDiff, ↓reduceIte]))
        refine AWP.loop (fun w : Nat × Nat => [(8, ⟨0, .val (.int .i64 ((w.1 + 1) * N : Nat))⟩), (5, ⟨0, .val (.int .i64 N)⟩), (3, ⟨0, .val (.int .i64 k)⟩), (4, ⟨1, .own (.sl true 2 (intL P))⟩), (6, ⟨w.2, .own (.sl true 2 (intL (tab w.1 (fun k => at' P ((k + 1) * N)))))⟩)]) (fun w => w.1 ≤ d / N) (fun w => d / N - w.1) (0, 1) (Nat.zero_le _) (fun i => rfl) ?_ (fun w hw => ?_)
        · rw [hN]; simp [Sub, lk, tab_nil]
        · obtain ⟨j, v⟩ := w
          simp only at hw ⊢
          have hdN : d / N ≤ d := Nat.div_le_self _ _
          have hjN : j * N ≤ d := Nat.le_trans (Nat.mul_le_mul_right N hw) (Nat.div_mul_le_self d N)
          have hs1 : (j + 1) * N = j * N + N := Nat.succ_mul ..
          have hs2 : (j + 1) * N + N = (j + 1 + 1) * N := (Nat.succ_mul ..).symm
          by_cases hq : (j + 1) * N < P.length
          · have hj2 : j + 1 ≤ d / N := (Nat.le_div_iff_mul_le hN1).2 (by omega)
            (repeat (first | ((with_reducible refine rgn_cons rfl (fun K hK => ?_)); simp only [go_sem, seval, ↓reduceIte, decide_true, decide_false, show (0 : Int) < (k : Int) by omega, show (((j + 1) * N : Nat) : Int) < (P.length : Int) by omega, decide_true, Int.natCast_nonneg, Int.toNat_natCast, intL_get _ _ hq, sizeL_take _ _ (Nat.le_of_lt hq), Nat.mul_one, show P.getD ((j + 1) * N) 0 = at' P ((j + 1) * N) from rfl, tab_length, intL_snoc, tab_succ j (fun k => at' P ((k + 1) * N)), show j + 1 ≤ 1099511627776 by omega, show (j + 1) * 8 ≤ 140737488355328 by omega, ← Int.natCast_add, hs2, wid (((j + 1 + 1) * N : Nat) : Int) (by omega) (by omega)]; (refine hK _ _ _ (by simp only [go_sem, Nat.reduceEqDiff, ↓reduceIte]; rfl) ?_); clear hK; clear K) | (with_reducible first | refine rgn_nil (by first | trivial | kernel_rfl) ?_ | refine AWP.seq ?_ | refine tX hC hP (by kernel_rfl) ?_ | refine aX hC hM hP (by kernel_rfl) ?_ | refine AWP.skip ?_ | refine AWP.label ?_ | refine AWP.exit ?_ | refine AWP.block ?_ | refine cT (by simp only [go_sem, Nat.reduceEqDiff, ↓reduceIte]; with_reducible rfl) ?_ | refine cF (by simp only [go_sem, Nat.reduceEqDiff, ↓reduceIte]; with_reducible rfl) ?_) | simp only [qS, Nat.reduceEqDiff, ↓reduceIte]))
            exact ⟨(j + 1, v + 1), hj2, by simp only; omega, by simp [Sub, lk]⟩
          · have hj2 : j = d / N := by
              refine Classical.byContradiction fun e => ?_
              have := (Nat.le_div_iff_mul_le hN1).1 (show j + 1 ≤ d / N by omega)
              omega
            (repeat (first | ((with_reducible refine rgn_cons rfl (fun K hK => ?_)); simp only [go_sem, seval, ↓reduceIte, decide_true, decide_false, show (0 : Int) < (k : Int) by omega, show ¬ (((j + 1) * N : Nat) : Int) < (P.length : Int) by omega, decide_true, decide_false]; (refine hK _ _ _ (by simp only [go_sem, Nat.reduceEqDiff, ↓reduceIte]; rfl) ?_); clear hK; clear K) | (with_reducible first | refine rgn_nil (by first | trivial | kernel_rfl) ?_ | refine AWP.seq ?_ | refine tX hC hP (by kernel_rfl) ?_ | refine aX hC hM hP (by kernel_rfl) ?_ | refine AWP.skip ?_ | refine AWP.label ?_ | refine AWP.exit ?_ | refine AWP.block ?_ | refine cT (by simp only [go_sem, Nat.reduceEqDiff, ↓reduceIte]; with_reducible rfl) ?_ | refine cF (by simp only [go_sem, Nat.reduceEqDiff, ↓reduceIte]; with_reducible rfl) ?_) | simp only [qS, Nat.reduceEqDiff, ↓reduceIte]))
            (refine AWP.ret ?_; first | refine retOk1 (by simp only [go_sem, seval, ↓reduceIte, decide_true, decide_false]; rfl) ?_ | refine retOk2 (by simp only [go_sem, seval, ↓reduceIte, decide_true, decide_false]; rfl) (by simp only [go_sem, seval, ↓reduceIte, decide_true, decide_false]; rfl) (by simp) ?_ | refine retOk3 (by simp only [go_sem, seval, ↓reduceIte, decide_true, decide_false]; rfl) (by simp only [go_sem, seval, ↓reduceIte, decide_true, decide_false]; rfl) (by simp only [go_sem, seval, ↓reduceIte, decide_true, decide_false]; rfl) (by simp) ?_)
            rw [serH, if_neg (by omega), hj2]
/-- The code of laws with a height, and the values of the unit and the rank. -/
noncomputable def unV (m : Int) (ll : List (List Int)) : Int := if hgC m ll = 0 then at' (pmL m ll) (htX m ll).1 else 0
noncomputable def rkV (m : Int) (ll : List (List Int)) : Int := if htC m ll = 0 then ((htX m ll).1 : Int) else 0
theorem c_spec_l17Rank (p N h d : Nat) (ll : List (List Int)) (hp : 2 ≤ p) (hp2 : p ≤ 7) (hl : Pl p (d + 1) ll) (hd1 : 1 ≤ d) (hd : d ≤ 10) (H : HtC p d (mzL p (pc ll) d (varL d) p) N h) : AFn Try.prog 142 [.agg [.int .i64 (p : Int), .sl false 26 (rowsF ll)]] (.int .i64 N) := by
  refine AFn.of' ttOk (by decide) Try.func142 Try.ntmps142 (by rw [Try.results142]) (by rfl) (by rfl) (by simp) (by decide) (by simp only [go_sem, Nat.reduceAdd, ↓reduceIte]; rfl) mixed (fun C hP hM hC => ?_)
  have f := mzL_facts (m := (p : Int)) (by omega) (pc ll) d (varL d) p
  have hW := c_spec_l04Of (p : Int) p ll d (by omega) (by omega) hl hd1 (by omega) (by omega) (by omega)
  generalize mzL (p : Int) (pc ll) d (varL d) p = P at *
  have hlen := f.1
  have hz : at' P 0 = 0 := by
    rcases H with ⟨_, _, h1⟩ | ⟨h0, h1, h2, _, h3⟩
    · exact h1 0
    · exact h3 0 (by rw [h1]; exact Nat.pow_pos (by omega))
  (repeat (first | ((with_reducible refine rgn_cons rfl (fun K hK => ?_)); simp only [go_sem, seval, ↓reduceIte, decide_true, decide_false]; (first | refine hK _ _ _ (by simp only [go_sem, Nat.reduceEqDiff, ↓reduceIte]; rfl) ?_ | refine ⟨_, hW, hK _ _ _ (by simp only [go_sem, Nat.reduceEqDiff, ↓reduceIte]; rfl) ?_⟩); clear hK; clear K) | (with_reducible first | refine rgn_nil (by first | trivial | kernel_rfl) ?_ | refine AWP.seq ?_ | refine tX hC hP (by kernel_rfl) ?_ | refine aX hC hM hP (by kernel_rfl) ?_ | refine AWP.skip ?_ | refine AWP.label ?_ | refine AWP.exit ?_ | refine AWP.block ?_ | refine cT (by simp only [go_sem, Nat.reduceEqDiff, ↓reduceIte]; with_reducible rfl) ?_ | refine cF (by simp only [go_sem, Nat.reduceEqDiff, ↓reduceIte]; with_reducible rfl) ?_) | simp only [qS, Nat.reduceEqDiff, ↓reduceIte]))
  refine AWP.loop (fun k : Nat => [(4, ⟨0, .val (.int .i64 ((k : Int) + 1))⟩), (3, ⟨1, .own (.sl true 2 (intL P))⟩)]) (fun k => k ≤ d ∧ ∀ j, j ≤ k → at' P j = 0) (fun k => d - k) 0 ⟨Nat.zero_le _, fun j hj => by rw [show j = 0 by omega]; exact hz⟩ (fun i => rfl) ?_ (fun k hk => ?_)
  · simp [Sub, lk, intL]
  · by_cases hlt : k < d
    · have k1 : k + 1 < P.length := by omega
      by_cases hx : at' P (k + 1) = 0
      · (repeat (first | ((with_reducible refine rgn_cons rfl (fun K hK => ?_)); simp only [go_sem, seval, ↓reduceIte, decide_true, decide_false, show (k : Int) + 1 < (P.length : Int) by omega, decide_true, show (0 : Int) ≤ (k : Int) + 1 by omega, show ((k : Int) + 1).toNat = k + 1 by omega, intL_get _ _ k1, sizeL_take _ _ (Nat.le_of_lt k1), Nat.mul_one, show P.getD (k + 1) 0 = at' P (k + 1) from rfl, hx, show ((0 : Int) != 0) = false from rfl, wid ((k : Int) + 1 + 1) (by omega) (by omega)]; (refine hK _ _ _ (by simp only [go_sem, Nat.reduceEqDiff, ↓reduceIte]; rfl) ?_); clear hK; clear K) | (with_reducible first | refine rgn_nil (by first | trivial | kernel_rfl) ?_ | refine AWP.seq ?_ | refine tX hC hP (by kernel_rfl) ?_ | refine aX hC hM hP (by kernel_rfl) ?_ | refine AWP.skip ?_ | refine AWP.label ?_ | refine AWP.exit ?_ | refine AWP.block ?_ | refine cT (by simp only [go_sem, Nat.reduceEqDiff, ↓reduceIte]; with_reducible rfl) ?_ | refine cF (by simp only [go_sem, Nat.reduceEqDiff, ↓reduceIte]; with_reducible rfl) ?_) | simp only [qS, Nat.reduceEqDiff, ↓reduceIte]))
        refine ⟨k + 1, ⟨hlt, fun j hj => ?_⟩, by omega, by simp [Sub, lk]⟩
        by_cases e : j = k + 1
        · rw [e]; exact hx
        · exact hk.2 j (by omega)
      · have hN : N = k + 1 := by
          rcases H with ⟨_, _, h1⟩ | ⟨h0, h1, h2, h4, h3⟩
          · exact absurd (h1 _) hx
          · by_cases e1 : N ≤ k
            · exact absurd (hk.2 N e1) h4
            · by_cases e2 : k + 1 < N
              · exact absurd (h3 _ e2) hx
              · omega
        (repeat (first | ((with_reducible refine rgn_cons rfl (fun K hK => ?_)); simp only [go_sem, seval, ↓reduceIte, decide_true, decide_false, show (k : Int) + 1 < (P.length : Int) by omega, decide_true, show (0 : Int) ≤ (k : Int) + 1 by omega, show ((k : Int) + 1).toNat = k + 1 by omega, intL_get _ _ k1, sizeL_take _ _ (Nat.le_of_lt k1), Nat.mul_one, show P.getD (k + 1) 0 = at' P (k + 1) from rfl, show (at' P (k + 1) != 0) = true by simpa using hx]; (refine hK _ _ _ (by simp only [go_sem, Nat.reduceEqDiff, ↓reduceIte]; rfl) ?_); clear hK; clear K) | (with_reducible first | refine rgn_nil (by first | trivial | kernel_rfl) ?_ | refine AWP.seq ?_ | refine tX hC hP (by kernel_rfl) ?_ | refine aX hC hM hP (by kernel_rfl) ?_ | refine AWP.skip ?_ | refine AWP.label ?_ | refine AWP.exit ?_ | refine AWP.block ?_ | refine cT (by simp only [go_sem, Nat.reduceEqDiff, ↓reduceIte]; with_reducible rfl) ?_ | refine cF (by simp only [go_sem, Nat.reduceEqDiff, ↓reduceIte]; with_reducible rfl) ?_) | simp only [qS, Nat.reduceEqDiff, ↓reduceIte]))
        (refine AWP.ret ?_; first | refine retOk1 (by simp only [go_sem, seval, ↓reduceIte, decide_true, decide_false]; rfl) ?_ | refine retOk2 (by simp only [go_sem, seval, ↓reduceIte, decide_true, decide_false]; rfl) (by simp only [go_sem, seval, ↓reduceIte, decide_true, decide_false]; rfl) (by simp) ?_ | refine retOk3 (by simp only [go_sem, seval, ↓reduceIte, decide_true, decide_false]; rfl) (by simp only [go_sem, seval, ↓reduceIte, decide_true, decide_false]; rfl) (by simp only [go_sem, seval, ↓reduceIte, decide_true, decide_false]; rfl) (by simp) ?_)
        rw [hN]; rfl
    · have hN : N = 0 := by
        rcases H with ⟨h1, _, _⟩ | ⟨h0, h1, h2, h4, h3⟩
        · exact h1
        · exact absurd (hk.2 N (by omega)) h4
      (repeat (first | ((with_reducible refine rgn_cons rfl (fun K hK => ?_)); simp only [go_sem, seval, ↓reduceIte, decide_true, decide_false, show ¬ (k : Int) + 1 < (P.length : Int) by omega, decide_false]; (refine hK _ _ _ (by simp only [go_sem, Nat.reduceEqDiff, ↓reduceIte]; rfl) ?_); clear hK; clear K) | (with_reducible first | refine rgn_nil (by first | trivial | kernel_rfl) ?_ | refine AWP.seq ?_ | refine tX hC hP (by kernel_rfl) ?_ | refine aX hC hM hP (by kernel_rfl) ?_ | refine AWP.skip ?_ | refine AWP.label ?_ | refine AWP.exit ?_ | refine AWP.block ?_ | refine cT (by simp only [go_sem, Nat.reduceEqDiff, ↓reduceIte]; with_reducible rfl) ?_ | refine cF (by simp only [go_sem, Nat.reduceEqDiff, ↓reduceIte]; with_reducible rfl) ?_) | simp only [qS, Nat.reduceEqDiff, ↓reduceIte]))
      (refine AWP.ret ?_; first | refine retOk1 (by simp only [go_sem, seval, ↓reduceIte, decide_true, decide_false]; rfl) ?_ | refine retOk2 (by simp only [go_sem, seval, ↓reduceIte, decide_true, decide_false]; rfl) (by simp only [go_sem, seval, ↓reduceIte, decide_true, decide_false]; rfl) (by simp) ?_ | refine retOk3 (by simp only [go_sem, seval, ↓reduceIte, decide_true, decide_false]; rfl) (by simp only [go_sem, seval, ↓reduceIte, decide_true, decide_false]; rfl) (by simp only [go_sem, seval, ↓reduceIte, decide_true, decide_false]; rfl) (by simp) ?_)
      rw [hN]; rfl
theorem c_spec_l17Code (m : Int) (ll : List (List Int)) (hs : Sm ll) : AFn Try.prog 93 [.agg [.int .i64 m, .sl false 26 (rowsF ll)], .bool false] (.tup [.int .i64 (rkV m ll), .int .i64 (hgC m ll)]) := by
  refine AFn.of' ttOk (by decide) Try.func93 Try.ntmps93 (by rw [Try.results93]) (by rfl) (by rfl) (by simp) (by decide) (by simp only [go_sem, Nat.reduceAdd, ↓reduceIte]; rfl) mixed (fun C hP hM hC => ?_)
  have hA := c_spec_l04Is m ll hs
  have hB := c_spec_l09Prime m
  cases hb : lawB m ll with
  | false =>
    have e : htC m ll = 1 := by simp [htC, hb]
    (repeat (first | ((with_reducible refine rgn_cons rfl (fun K hK => ?_)); simp only [go_sem, seval, ↓reduceIte, decide_true, decide_false, hb]; (first | refine hK _ _ _ (by simp only [go_sem, Nat.reduceEqDiff, ↓reduceIte]; rfl) ?_ | refine ⟨_, hA, hK _ _ _ (by simp only [go_sem, Nat.reduceEqDiff, ↓reduceIte]; rfl) ?_⟩); clear hK; clear K) | (with_reducible first | refine rgn_nil (by first | trivial | kernel_rfl) ?_ | refine AWP.seq ?_ | refine tX hC hP (by kernel_rfl) ?_ | refine aX hC hM hP (by kernel_rfl) ?_ | refine AWP.skip ?_ | refine AWP.label ?_ | refine AWP.exit ?_ | refine AWP.block ?_ | refine cT (by simp only [go_sem, Nat.reduceEqDiff, ↓reduceIte]; with_reducible rfl) ?_ | refine cF (by simp only [go_sem, Nat.reduceEqDiff, ↓reduceIte]; with_reducible rfl) ?_) | simp only [qS, Nat.reduceEqDiff, ↓reduceIte]))
    (refine AWP.ret ?_; first | refine retOk1 (by simp only [go_sem, seval, ↓reduceIte, decide_true, decide_false]; rfl) ?_ | refine retOk2 (by simp only [go_sem, seval, ↓reduceIte, decide_true, decide_false]; rfl) (by simp only [go_sem, seval, ↓reduceIte, decide_true, decide_false]; rfl) (by simp) ?_ | refine retOk3 (by simp only [go_sem, seval, ↓reduceIte, decide_true, decide_false]; rfl) (by simp only [go_sem, seval, ↓reduceIte, decide_true, decide_false]; rfl) (by simp only [go_sem, seval, ↓reduceIte, decide_true, decide_false]; rfl) (by simp) ?_)
    simp [rkV, hgC, e]
  | true =>
    cases hp : prB m with
    | false =>
      have e : htC m ll = 5 := by simp [htC, hb, hp]
      (repeat (first | ((with_reducible refine rgn_cons rfl (fun K hK => ?_)); simp only [go_sem, seval, ↓reduceIte, decide_true, decide_false, hb, hp]; (first | refine hK _ _ _ (by simp only [go_sem, Nat.reduceEqDiff, ↓reduceIte]; rfl) ?_ | refine ⟨_, hA, hK _ _ _ (by simp only [go_sem, Nat.reduceEqDiff, ↓reduceIte]; rfl) ?_⟩ | refine ⟨_, hB, hK _ _ _ (by simp only [go_sem, Nat.reduceEqDiff, ↓reduceIte]; rfl) ?_⟩); clear hK; clear K) | (with_reducible first | refine rgn_nil (by first | trivial | kernel_rfl) ?_ | refine AWP.seq ?_ | refine tX hC hP (by kernel_rfl) ?_ | refine aX hC hM hP (by kernel_rfl) ?_ | refine AWP.skip ?_ | refine AWP.label ?_ | refine AWP.exit ?_ | refine AWP.block ?_ | refine cT (by simp only [go_sem, Nat.reduceEqDiff, ↓reduceIte]; with_reducible rfl) ?_ | refine cF (by simp only [go_sem, Nat.reduceEqDiff, ↓reduceIte]; with_reducible rfl) ?_) | simp only [qS, Nat.reduceEqDiff, ↓reduceIte]))
      (refine AWP.ret ?_; first | refine retOk1 (by simp only [go_sem, seval, ↓reduceIte, decide_true, decide_false]; rfl) ?_ | refine retOk2 (by simp only [go_sem, seval, ↓reduceIte, decide_true, decide_false]; rfl) (by simp only [go_sem, seval, ↓reduceIte, decide_true, decide_false]; rfl) (by simp) ?_ | refine retOk3 (by simp only [go_sem, seval, ↓reduceIte, decide_true, decide_false]; rfl) (by simp only [go_sem, seval, ↓reduceIte, decide_true, decide_false]; rfl) (by simp only [go_sem, seval, ↓reduceIte, decide_true, decide_false]; rfl) (by simp) ?_)
      simp [rkV, hgC, e]
    | true =>
      have hc : htC m ll = 0 := by simp [htC, hb, hp]
      obtain ⟨p, d, h1, h2, h3, h4, h5, h6, h7, h8, h9, _, _⟩ := lw_prime hc
      have hV : rkV m ll = (htX m ll).1 := if_pos hc
      have hX := c_spec_l17Rank p (htX m ll).1 (htX m ll).2 d ll h2 h3 h7 h4 h5 h9
      rw [← h1] at hX
      have hE := ht_pos h2 h9
      by_cases h0 : (htX m ll).1 = 0
      · have e : hgC m ll = 4 := by simp [hgC, hc, hE.1 h0]
        rw [hV, e]
        rw [h0] at hX ⊢
        rw [Int.natCast_zero] at hX ⊢
        (repeat (first | ((with_reducible refine rgn_cons rfl (fun K hK => ?_)); simp only [go_sem, seval, ↓reduceIte, decide_true, decide_false, hb, hp, show ((0 : Int) == 0) = true from rfl]; (first | refine hK _ _ _ (by simp only [go_sem, Nat.reduceEqDiff, ↓reduceIte]; rfl) ?_ | refine ⟨_, hA, hK _ _ _ (by simp only [go_sem, Nat.reduceEqDiff, ↓reduceIte]; rfl) ?_⟩ | refine ⟨_, hB, hK _ _ _ (by simp only [go_sem, Nat.reduceEqDiff, ↓reduceIte]; rfl) ?_⟩ | refine ⟨_, hX, hK _ _ _ (by simp only [go_sem, Nat.reduceEqDiff, ↓reduceIte]; rfl) ?_⟩); clear hK; clear K) | (with_reducible first | refine rgn_nil (by first | trivial | kernel_rfl) ?_ | refine AWP.seq ?_ | refine tX hC hP (by kernel_rfl) ?_ | refine aX hC hM hP (by kernel_rfl) ?_ | refine AWP.skip ?_ | refine AWP.label ?_ | refine AWP.exit ?_ | refine AWP.block ?_ | refine cT (by simp only [go_sem, Nat.reduceEqDiff, ↓reduceIte]; with_reducible rfl) ?_ | refine cF (by simp only [go_sem, Nat.reduceEqDiff, ↓reduceIte]; with_reducible rfl) ?_) | simp only [qS, Nat.reduceEqDiff, ↓reduceIte]))
        (refine AWP.ret ?_; first | refine retOk1 (by simp only [go_sem, seval, ↓reduceIte, decide_true, decide_false]; rfl) ?_ | refine retOk2 (by simp only [go_sem, seval, ↓reduceIte, decide_true, decide_false]; rfl) (by simp only [go_sem, seval, ↓reduceIte, decide_true, decide_false]; rfl) (by simp) ?_ | refine retOk3 (by simp only [go_sem, seval, ↓reduceIte, decide_true, decide_false]; rfl) (by simp only [go_sem, seval, ↓reduceIte, decide_true, decide_false]; rfl) (by simp only [go_sem, seval, ↓reduceIte, decide_true, decide_false]; rfl) (by simp) ?_)
        rfl
      · have e : hgC m ll = 0 := by simp [hgC, hc, show (htX m ll).2 ≠ 0 from fun e => h0 (hE.2 e)]
        rw [hV, e]
        (repeat (first | ((with_reducible refine rgn_cons rfl (fun K hK => ?_)); simp only [go_sem, seval, ↓reduceIte, decide_true, decide_false, hb, hp, show (((htX m ll).1 : Int) == 0) = false by rw [beq_eq_false_iff_ne]; omega]; (first | refine hK _ _ _ (by simp only [go_sem, Nat.reduceEqDiff, ↓reduceIte]; rfl) ?_ | refine ⟨_, hA, hK _ _ _ (by simp only [go_sem, Nat.reduceEqDiff, ↓reduceIte]; rfl) ?_⟩ | refine ⟨_, hB, hK _ _ _ (by simp only [go_sem, Nat.reduceEqDiff, ↓reduceIte]; rfl) ?_⟩ | refine ⟨_, hX, hK _ _ _ (by simp only [go_sem, Nat.reduceEqDiff, ↓reduceIte]; rfl) ?_⟩); clear hK; clear K) | (with_reducible first | refine rgn_nil (by first | trivial | kernel_rfl) ?_ | refine AWP.seq ?_ | refine tX hC hP (by kernel_rfl) ?_ | refine aX hC hM hP (by kernel_rfl) ?_ | refine AWP.skip ?_ | refine AWP.label ?_ | refine AWP.exit ?_ | refine AWP.block ?_ | refine cT (by simp only [go_sem, Nat.reduceEqDiff, ↓reduceIte]; with_reducible rfl) ?_ | refine cF (by simp only [go_sem, Nat.reduceEqDiff, ↓reduceIte]; with_reducible rfl) ?_) | simp only [qS, Nat.reduceEqDiff, ↓reduceIte]))
        (refine AWP.ret ?_; first | refine retOk1 (by simp only [go_sem, seval, ↓reduceIte, decide_true, decide_false]; rfl) ?_ | refine retOk2 (by simp only [go_sem, seval, ↓reduceIte, decide_true, decide_false]; rfl) (by simp only [go_sem, seval, ↓reduceIte, decide_true, decide_false]; rfl) (by simp) ?_ | refine retOk3 (by simp only [go_sem, seval, ↓reduceIte, decide_true, decide_false]; rfl) (by simp only [go_sem, seval, ↓reduceIte, decide_true, decide_false]; rfl) (by simp only [go_sem, seval, ↓reduceIte, decide_true, decide_false]; rfl) (by simp) ?_)
        rfl
theorem c_impl_ranked (m : Int) (ll : List (List Int)) (hs : Sm ll) : AFn Try.prog 94 [.agg [.int .i64 m, .sl false 26 (rowsF ll)]] (.tup [.int .i64 (rkV m ll), .int .i64 (hgC m ll)]) := by
  refine AFn.of' ttOk (by decide) Try.func94 Try.ntmps94 (by rw [Try.results94]) (by rfl) (by rfl) (by simp) (by decide) (by simp only [go_sem, Nat.reduceAdd, ↓reduceIte]; rfl) mixed (fun C hP hM hC => ?_)
  have hA := c_impl_heighted m ll hs
  by_cases hc : htC m ll = 0
  · obtain ⟨p, d, h1, h2, h3, h4, h5, h6, h7, h8, h9, _, _⟩ := lw_prime hc
    have hV : rkV m ll = (htX m ll).1 := if_pos hc
    have f := mzL_facts (m := (p : Int)) (by omega) (pc ll) d (varL d) p
    have hX := c_impl_Plane_byPrime (p : Int) ll d (by omega) (by omega) h7 h4 h5
    rw [ht_ord f.1 h9, ← h1] at hX
    have hE := ht_pos h2 h9
    by_cases h0 : (htX m ll).1 = 0
    · have e : hgC m ll = 4 := by simp [hgC, hc, hE.1 h0]
      rw [hV, e]
      rw [h0] at hX ⊢
      rw [Int.natCast_zero] at hX ⊢
      (repeat (first | ((with_reducible refine rgn_cons rfl (fun K hK => ?_)); simp only [go_sem, seval, ↓reduceIte, decide_true, decide_false, hc, show ((0 : Int) != 0) = false from rfl, show ((0 : Int) == 0) = true from rfl]; (first | refine hK _ _ _ (by simp only [go_sem, Nat.reduceEqDiff, ↓reduceIte]; rfl) ?_ | refine ⟨_, hA, hK _ _ _ (by simp only [go_sem, Nat.reduceEqDiff, ↓reduceIte]; rfl) ?_⟩ | refine ⟨_, hX, hK _ _ _ (by simp only [go_sem, Nat.reduceEqDiff, ↓reduceIte]; rfl) ?_⟩); clear hK; clear K) | (with_reducible first | refine rgn_nil (by first | trivial | kernel_rfl) ?_ | refine AWP.seq ?_ | refine tX hC hP (by kernel_rfl) ?_ | refine aX hC hM hP (by kernel_rfl) ?_ | refine AWP.skip ?_ | refine AWP.label ?_ | refine AWP.exit ?_ | refine AWP.block ?_ | refine cT (by simp only [go_sem, Nat.reduceEqDiff, ↓reduceIte]; with_reducible rfl) ?_ | refine cF (by simp only [go_sem, Nat.reduceEqDiff, ↓reduceIte]; with_reducible rfl) ?_) | simp only [qS, Nat.reduceEqDiff, ↓reduceIte]))
      (refine AWP.ret ?_; first | refine retOk1 (by simp only [go_sem, seval, ↓reduceIte, decide_true, decide_false]; rfl) ?_ | refine retOk2 (by simp only [go_sem, seval, ↓reduceIte, decide_true, decide_false]; rfl) (by simp only [go_sem, seval, ↓reduceIte, decide_true, decide_false]; rfl) (by simp) ?_ | refine retOk3 (by simp only [go_sem, seval, ↓reduceIte, decide_true, decide_false]; rfl) (by simp only [go_sem, seval, ↓reduceIte, decide_true, decide_false]; rfl) (by simp only [go_sem, seval, ↓reduceIte, decide_true, decide_false]; rfl) (by simp) ?_)
      rfl
    · have e : hgC m ll = 0 := by simp [hgC, hc, show (htX m ll).2 ≠ 0 from fun e => h0 (hE.2 e)]
      rw [hV, e]
      (repeat (first | ((with_reducible refine rgn_cons rfl (fun K hK => ?_)); simp only [go_sem, seval, ↓reduceIte, decide_true, decide_false, hc, show ((0 : Int) != 0) = false from rfl, show (((htX m ll).1 : Int) == 0) = false by rw [beq_eq_false_iff_ne]; omega]; (first | refine hK _ _ _ (by simp only [go_sem, Nat.reduceEqDiff, ↓reduceIte]; rfl) ?_ | refine ⟨_, hA, hK _ _ _ (by simp only [go_sem, Nat.reduceEqDiff, ↓reduceIte]; rfl) ?_⟩ | refine ⟨_, hX, hK _ _ _ (by simp only [go_sem, Nat.reduceEqDiff, ↓reduceIte]; rfl) ?_⟩); clear hK; clear K) | (with_reducible first | refine rgn_nil (by first | trivial | kernel_rfl) ?_ | refine AWP.seq ?_ | refine tX hC hP (by kernel_rfl) ?_ | refine aX hC hM hP (by kernel_rfl) ?_ | refine AWP.skip ?_ | refine AWP.label ?_ | refine AWP.exit ?_ | refine AWP.block ?_ | refine cT (by simp only [go_sem, Nat.reduceEqDiff, ↓reduceIte]; with_reducible rfl) ?_ | refine cF (by simp only [go_sem, Nat.reduceEqDiff, ↓reduceIte]; with_reducible rfl) ?_) | simp only [qS, Nat.reduceEqDiff, ↓reduceIte]))
      (refine AWP.ret ?_; first | refine retOk1 (by simp only [go_sem, seval, ↓reduceIte, decide_true, decide_false]; rfl) ?_ | refine retOk2 (by simp only [go_sem, seval, ↓reduceIte, decide_true, decide_false]; rfl) (by simp only [go_sem, seval, ↓reduceIte, decide_true, decide_false]; rfl) (by simp) ?_ | refine retOk3 (by simp only [go_sem, seval, ↓reduceIte, decide_true, decide_false]; rfl) (by simp only [go_sem, seval, ↓reduceIte, decide_true, decide_false]; rfl) (by simp only [go_sem, seval, ↓reduceIte, decide_true, decide_false]; rfl) (by simp) ?_)
      rfl
  · have e : hgC m ll = htC m ll := if_neg hc
    have hV : rkV m ll = 0 := if_neg hc
    (repeat (first | ((with_reducible refine rgn_cons rfl (fun K hK => ?_)); simp only [go_sem, seval, ↓reduceIte, decide_true, decide_false, show (htC m ll != 0) = true by simpa using hc]; (first | refine hK _ _ _ (by simp only [go_sem, Nat.reduceEqDiff, ↓reduceIte]; rfl) ?_ | refine ⟨_, hA, hK _ _ _ (by simp only [go_sem, Nat.reduceEqDiff, ↓reduceIte]; rfl) ?_⟩); clear hK; clear K) | (with_reducible first | refine rgn_nil (by first | trivial | kernel_rfl) ?_ | refine AWP.seq ?_ | refine tX hC hP (by kernel_rfl) ?_ | refine aX hC hM hP (by kernel_rfl) ?_ | refine AWP.skip ?_ | refine AWP.label ?_ | refine AWP.exit ?_ | refine AWP.block ?_ | refine cT (by simp only [go_sem, Nat.reduceEqDiff, ↓reduceIte]; with_reducible rfl) ?_ | refine cF (by simp only [go_sem, Nat.reduceEqDiff, ↓reduceIte]; with_reducible rfl) ?_) | simp only [qS, Nat.reduceEqDiff, ↓reduceIte]))
    (refine AWP.ret ?_; first | refine retOk1 (by simp only [go_sem, seval, ↓reduceIte, decide_true, decide_false]; rfl) ?_ | refine retOk2 (by simp only [go_sem, seval, ↓reduceIte, decide_true, decide_false]; rfl) (by simp only [go_sem, seval, ↓reduceIte, decide_true, decide_false]; rfl) (by simp) ?_ | refine retOk3 (by simp only [go_sem, seval, ↓reduceIte, decide_true, decide_false]; rfl) (by simp only [go_sem, seval, ↓reduceIte, decide_true, decide_false]; rfl) (by simp only [go_sem, seval, ↓reduceIte, decide_true, decide_false]; rfl) (by simp) ?_)
    rw [hV, e]
theorem c_spec_RankOfKernel (m : Int) (ll : List (List Int)) (hs : Sm ll) : AFn Try.prog 47 [.agg [.int .i64 m, .sl false 26 (rowsF ll)]] (.tup [.int .i64 (rkV m ll), .int .i64 (hgC m ll)]) := by
  refine AFn.of' ttOk (by decide) Try.func47 Try.ntmps47 (by rw [Try.results47]) (by rfl) (by rfl) (by simp) (by decide) (by simp only [go_sem, Nat.reduceAdd, ↓reduceIte]; rfl) mixed (fun C hP hM hC => ?_)
  (repeat (first | ((with_reducible refine rgn_cons rfl (fun K hK => ?_)); simp only [go_sem, seval, ↓reduceIte, decide_true, decide_false]; (first | refine hK _ _ _ (by simp only [go_sem, Nat.reduceEqDiff, ↓reduceIte]; rfl) ?_ | refine ⟨_, c_spec_l17Code m ll hs, hK _ _ _ (by simp only [go_sem, Nat.reduceEqDiff, ↓reduceIte]; rfl) ?_⟩); clear hK; clear K) | (with_reducible first | refine rgn_nil (by first | trivial | kernel_rfl) ?_ | refine AWP.seq ?_ | refine tX hC hP (by kernel_rfl) ?_ | refine aX hC hM hP (by kernel_rfl) ?_ | refine AWP.skip ?_ | refine AWP.label ?_ | refine AWP.exit ?_ | refine AWP.block ?_ | refine cT (by simp only [go_sem, Nat.reduceEqDiff, ↓reduceIte]; with_reducible rfl) ?_ | refine cF (by simp only [go_sem, Nat.reduceEqDiff, ↓reduceIte]; with_reducible rfl) ?_) | simp only [qS, Nat.reduceEqDiff, ↓reduceIte]))
  (refine AWP.ret ?_; first | refine retOk1 (by simp only [go_sem, seval, ↓reduceIte, decide_true, decide_false]; rfl) ?_ | refine retOk2 (by simp only [go_sem, seval, ↓reduceIte, decide_true, decide_false]; rfl) (by simp only [go_sem, seval, ↓reduceIte, decide_true, decide_false]; rfl) (by simp) ?_ | refine retOk3 (by simp only [go_sem, seval, ↓reduceIte, decide_true, decide_false]; rfl) (by simp only [go_sem, seval, ↓reduceIte, decide_true, decide_false]; rfl) (by simp only [go_sem, seval, ↓reduceIte, decide_true, decide_false]; rfl) (by simp) ?_)
  rfl
theorem c_impl_RankOfKernel (m : Int) (ll : List (List Int)) (hs : Sm ll) : AFn Try.prog 48 [.agg [.int .i64 m, .sl false 26 (rowsF ll)]] (.tup [.int .i64 (rkV m ll), .int .i64 (hgC m ll)]) := by
  refine AFn.of' ttOk (by decide) Try.func48 Try.ntmps48 (by rw [Try.results48]) (by rfl) (by rfl) (by simp) (by decide) (by simp only [go_sem, Nat.reduceAdd, ↓reduceIte]; rfl) mixed (fun C hP hM hC => ?_)
  (repeat (first | ((with_reducible refine rgn_cons rfl (fun K hK => ?_)); simp only [go_sem, seval, ↓reduceIte, decide_true, decide_false]; (first | refine hK _ _ _ (by simp only [go_sem, Nat.reduceEqDiff, ↓reduceIte]; rfl) ?_ | refine ⟨_, c_impl_ranked m ll hs, hK _ _ _ (by simp only [go_sem, Nat.reduceEqDiff, ↓reduceIte]; rfl) ?_⟩); clear hK; clear K) | (with_reducible first | refine rgn_nil (by first | trivial | kernel_rfl) ?_ | refine AWP.seq ?_ | refine tX hC hP (by kernel_rfl) ?_ | refine aX hC hM hP (by kernel_rfl) ?_ | refine AWP.skip ?_ | refine AWP.label ?_ | refine AWP.exit ?_ | refine AWP.block ?_ | refine cT (by simp only [go_sem, Nat.reduceEqDiff, ↓reduceIte]; with_reducible rfl) ?_ | refine cF (by simp only [go_sem, Nat.reduceEqDiff, ↓reduceIte]; with_reducible rfl) ?_) | simp only [qS, Nat.reduceEqDiff, ↓reduceIte]))
  (refine AWP.ret ?_; first | refine retOk1 (by simp only [go_sem, seval, ↓reduceIte, decide_true, decide_false]; rfl) ?_ | refine retOk2 (by simp only [go_sem, seval, ↓reduceIte, decide_true, decide_false]; rfl) (by simp only [go_sem, seval, ↓reduceIte, decide_true, decide_false]; rfl) (by simp) ?_ | refine retOk3 (by simp only [go_sem, seval, ↓reduceIte, decide_true, decide_false]; rfl) (by simp only [go_sem, seval, ↓reduceIte, decide_true, decide_false]; rfl) (by simp only [go_sem, seval, ↓reduceIte, decide_true, decide_false]; rfl) (by simp) ?_)
  rfl
-- The series and the unit of a law.
theorem serH_len (P : List Int) (N d : Nat) : (serH P N d).length ≤ d := by
  unfold serH
  split
  · exact Nat.zero_le _
  · rw [tab_length]; exact Nat.div_le_self _ _
theorem serH_pos {P : List Int} {N d : Nat} (h : 0 < N) (h2 : N ≤ d) : 0 < (serH P N d).length ∧ (serH P N d).getD 0 0 = at' P N := by
  have hd : 1 ≤ d / N := (Nat.le_div_iff_mul_le h).2 (by omega)
  unfold serH
  rw [if_neg (by omega), tab_length, tab_getD (by omega)]
  exact ⟨hd, by simp⟩
noncomputable def shL (m : Int) (ll : List (List Int)) : List Int := serH (pmL m ll) (htX m ll).1 (ll.length - 1)
theorem hg_cases {m : Int} {ll : List (List Int)} : (htC m ll ≠ 0 ∧ hgC m ll = htC m ll) ∨ ∃ p d : Nat, htC m ll = 0 ∧ m = (p : Int) ∧ 2 ≤ p ∧ p ≤ 7 ∧ 1 ≤ d ∧ d ≤ 10 ∧ ll.length = d + 1 ∧ Pl (p : Int) (d + 1) ll ∧ pmL m ll = mzL (p : Int) (pc ll) d (varL d) p ∧ HtC p d (pmL m ll) (htX m ll).1 (htX m ll).2 ∧ (((htX m ll).1 = 0 ∧ (htX m ll).2 = 0 ∧ hgC m ll = 4) ∨ (0 < (htX m ll).1 ∧ (htX m ll).1 ≤ d ∧ hgC m ll = 0)) := by
  by_cases hc : htC m ll = 0
  · obtain ⟨p, d, h1, h2, h3, h4, h5, h6, h7, h8, h9, _, _⟩ := lw_prime hc
    have hE := ht_pos h2 h9
    refine .inr ⟨p, d, hc, h1, h2, h3, h4, h5, h6, h7, h8, by rw [h8]; exact h9, ?_⟩
    by_cases h0 : (htX m ll).1 = 0
    · exact .inl ⟨h0, hE.1 h0, by simp [hgC, hc, hE.1 h0]⟩
    · refine .inr ⟨by omega, ?_, by simp [hgC, hc, show (htX m ll).2 ≠ 0 from fun e => h0 (hE.2 e)]⟩
      rcases h9 with h9 | h9
      · omega
      · exact h9.2.2.1
  · exact .inl ⟨hc, if_neg hc⟩
theorem hg_yes {m : Int} {ll : List (List Int)} (h : hgC m ll = 0) : ∃ p d : Nat, htC m ll = 0 ∧ m = (p : Int) ∧ 2 ≤ p ∧ p ≤ 7 ∧ 1 ≤ d ∧ d ≤ 10 ∧ ll.length = d + 1 ∧ Pl (p : Int) (d + 1) ll ∧ pmL m ll = mzL (p : Int) (pc ll) d (varL d) p ∧ HtC p d (pmL m ll) (htX m ll).1 (htX m ll).2 ∧ 0 < (htX m ll).1 ∧ (htX m ll).1 ≤ d := by
  rcases hg_cases (m := m) (ll := ll) with ⟨h1, h2⟩ | ⟨p, d, a1, a2, a3, a4, a5, a6, a7, a8, a9, a10, h9 | h9⟩
  · rw [h2] at h; exact absurd h h1
  · rw [h9.2.2] at h; cases h
  · exact ⟨p, d, a1, a2, a3, a4, a5, a6, a7, a8, a9, a10, h9.1, h9.2.1⟩
theorem c_spec_SeriesOfHeight_ok (m : Int) (ll : List (List Int)) (hs : Sm ll) (h : hgC m ll = 0) : AFn Try.prog 40 [.agg [.int .i64 m, .sl false 26 (rowsF ll)]] (.tup [.sl true 2 (intL (shL m ll)), .int .i64 (hgC m ll)]) := by
  refine AFn.of' ttOk (by decide) Try.func40 Try.ntmps40 (by rw [Try.results40]) (by rfl) (by rfl) (by simp) (by decide) (by simp only [go_sem, Nat.reduceAdd, ↓reduceIte]; rfl) mixed (fun C hP hM hC => ?_)
  have hA := c_spec_l10Code m ll hs
  obtain ⟨p, d, hc, h1, h2, h3, h4, h5, h6, h7, h8, h9, h10, h11⟩ := hg_yes h
  have hX := c_spec_l10Series p (htX m ll).1 (htX m ll).2 d ll h2 h3 h7 h4 h5 (by rw [← h8]; exact h9)
  rw [← h8, ← h1, show d = ll.length - 1 by omega, show serH (pmL m ll) (htX m ll).1 (ll.length - 1) = shL m ll from rfl] at hX
  have hp := serH_pos (P := pmL m ll) h10 (show (htX m ll).1 ≤ ll.length - 1 by omega)
  rw [show serH (pmL m ll) (htX m ll).1 (ll.length - 1) = shL m ll from rfl] at hp
  (repeat (first | ((with_reducible refine rgn_cons rfl (fun K hK => ?_)); simp only [go_sem, seval, ↓reduceIte, decide_true, decide_false, hc, show ((0 : Int) != 0) = false from rfl, show (((shL m ll).length : Int) == 0) = false by rw [beq_eq_false_iff_ne]; omega]; (first | refine hK _ _ _ (by simp only [go_sem, Nat.reduceEqDiff, ↓reduceIte]; rfl) ?_ | refine ⟨_, hA, hK _ _ _ (by simp only [go_sem, Nat.reduceEqDiff, ↓reduceIte]; rfl) ?_⟩ | refine ⟨_, hX, hK _ _ _ (by simp only [go_sem, Nat.reduceEqDiff, ↓reduceIte]; rfl) ?_⟩); clear hK; clear K) | (with_reducible first | refine rgn_nil (by first | trivial | kernel_rfl) ?_ | refine AWP.seq ?_ | refine tX hC hP (by kernel_rfl) ?_ | refine aX hC hM hP (by kernel_rfl) ?_ | refine AWP.skip ?_ | refine AWP.label ?_ | refine AWP.exit ?_ | refine AWP.block ?_ | refine cT (by simp only [go_sem, Nat.reduceEqDiff, ↓reduceIte]; with_reducible rfl) ?_ | refine cF (by simp only [go_sem, Nat.reduceEqDiff, ↓reduceIte]; with_reducible rfl) ?_) | simp only [qS, Nat.reduceEqDiff, ↓reduceIte]))
  (refine AWP.ret ?_; first | refine retOk1 (by simp only [go_sem, seval, ↓reduceIte, decide_true, decide_false]; rfl) ?_ | refine retOk2 (by simp only [go_sem, seval, ↓reduceIte, decide_true, decide_false]; rfl) (by simp only [go_sem, seval, ↓reduceIte, decide_true, decide_false]; rfl) (by simp) ?_ | refine retOk3 (by simp only [go_sem, seval, ↓reduceIte, decide_true, decide_false]; rfl) (by simp only [go_sem, seval, ↓reduceIte, decide_true, decide_false]; rfl) (by simp only [go_sem, seval, ↓reduceIte, decide_true, decide_false]; rfl) (by simp) ?_)
  rw [h]
theorem c_spec_SeriesOfHeight_no (m : Int) (ll : List (List Int)) (hs : Sm ll) (h : ¬ hgC m ll = 0) : AFn Try.prog 40 [.agg [.int .i64 m, .sl false 26 (rowsF ll)]] (.tup [.nil, .int .i64 (hgC m ll)]) := by
  refine AFn.of' ttOk (by decide) Try.func40 Try.ntmps40 (by rw [Try.results40]) (by rfl) (by rfl) (by simp) (by decide) (by simp only [go_sem, Nat.reduceAdd, ↓reduceIte]; rfl) mixed (fun C hP hM hC => ?_)
  have hA := c_spec_l10Code m ll hs
  rcases hg_cases (m := m) (ll := ll) with ⟨h1, h2⟩ | ⟨p, d, hc, h1, h2, h3, h4, h5, h6, h7, h8, h9, h10 | h10⟩
  · (repeat (first | ((with_reducible refine rgn_cons rfl (fun K hK => ?_)); simp only [go_sem, seval, ↓reduceIte, decide_true, decide_false, show (htC m ll != 0) = true by simpa using h1]; (first | refine hK _ _ _ (by simp only [go_sem, Nat.reduceEqDiff, ↓reduceIte]; rfl) ?_ | refine ⟨_, hA, hK _ _ _ (by simp only [go_sem, Nat.reduceEqDiff, ↓reduceIte]; rfl) ?_⟩); clear hK; clear K) | (with_reducible first | refine rgn_nil (by first | trivial | kernel_rfl) ?_ | refine AWP.seq ?_ | refine tX hC hP (by kernel_rfl) ?_ | refine aX hC hM hP (by kernel_rfl) ?_ | refine AWP.skip ?_ | refine AWP.label ?_ | refine AWP.exit ?_ | refine AWP.block ?_ | refine cT (by simp only [go_sem, Nat.reduceEqDiff, ↓reduceIte]; with_reducible rfl) ?_ | refine cF (by simp only [go_sem, Nat.reduceEqDiff, ↓reduceIte]; with_reducible rfl) ?_) | simp only [qS, Nat.reduceEqDiff, ↓reduceIte]))
    (refine AWP.ret ?_; first | refine retOk1 (by simp only [go_sem, seval, ↓reduceIte, decide_true, decide_false]; rfl) ?_ | refine retOk2 (by simp only [go_sem, seval, ↓reduceIte, decide_true, decide_false]; rfl) (by simp only [go_sem, seval, ↓reduceIte, decide_true, decide_false]; rfl) (by simp) ?_ | refine retOk3 (by simp only [go_sem, seval, ↓reduceIte, decide_true, decide_false]; rfl) (by simp only [go_sem, seval, ↓reduceIte, decide_true, decide_false]; rfl) (by simp only [go_sem, seval, ↓reduceIte, decide_true, decide_false]; rfl) (by simp) ?_)
    rw [h2]
  · have hX := c_spec_l10Series p (htX m ll).1 (htX m ll).2 d ll h2 h3 h7 h4 h5 (by rw [← h8]; exact h9)
    rw [← h8, ← h1, show serH (pmL m ll) (htX m ll).1 d = [] from if_pos h10.1] at hX
    (repeat (first | ((with_reducible refine rgn_cons rfl (fun K hK => ?_)); simp only [go_sem, seval, ↓reduceIte, decide_true, decide_false, hc, show ((0 : Int) != 0) = false from rfl, List.length_nil, Int.natCast_zero, show ((0 : Int) == 0) = true from rfl]; (first | refine hK _ _ _ (by simp only [go_sem, Nat.reduceEqDiff, ↓reduceIte]; rfl) ?_ | refine ⟨_, hA, hK _ _ _ (by simp only [go_sem, Nat.reduceEqDiff, ↓reduceIte]; rfl) ?_⟩ | refine ⟨_, hX, hK _ _ _ (by simp only [go_sem, Nat.reduceEqDiff, ↓reduceIte]; rfl) ?_⟩); clear hK; clear K) | (with_reducible first | refine rgn_nil (by first | trivial | kernel_rfl) ?_ | refine AWP.seq ?_ | refine tX hC hP (by kernel_rfl) ?_ | refine aX hC hM hP (by kernel_rfl) ?_ | refine AWP.skip ?_ | refine AWP.label ?_ | refine AWP.exit ?_ | refine AWP.block ?_ | refine cT (by simp only [go_sem, Nat.reduceEqDiff, ↓reduceIte]; with_reducible rfl) ?_ | refine cF (by simp only [go_sem, Nat.reduceEqDiff, ↓reduceIte]; with_reducible rfl) ?_) | simp only [qS, Nat.reduceEqDiff, ↓reduceIte]))
    (refine AWP.ret ?_; first | refine retOk1 (by simp only [go_sem, seval, ↓reduceIte, decide_true, decide_false]; rfl) ?_ | refine retOk2 (by simp only [go_sem, seval, ↓reduceIte, decide_true, decide_false]; rfl) (by simp only [go_sem, seval, ↓reduceIte, decide_true, decide_false]; rfl) (by simp) ?_ | refine retOk3 (by simp only [go_sem, seval, ↓reduceIte, decide_true, decide_false]; rfl) (by simp only [go_sem, seval, ↓reduceIte, decide_true, decide_false]; rfl) (by simp only [go_sem, seval, ↓reduceIte, decide_true, decide_false]; rfl) (by simp) ?_)
    rw [h10.2.2]
  · exact absurd h10.2.2 h
set_option maxHeartbeats 1000000 in
theorem c_impl_SeriesOfHeight_ok (m : Int) (ll : List (List Int)) (hs : Sm ll) (h : hgC m ll = 0) : AFn Try.prog 41 [.agg [.int .i64 m, .sl false 26 (rowsF ll)]] (.tup [.sl true 2 (intL (shL m ll)), .int .i64 (hgC m ll)]) := by
  refine AFn.of' ttOk (by decide) Try.func41 Try.ntmps41 (by rw [Try.results41]) (by rfl) (by rfl) (by simp) (by decide) (by simp only [go_sem, Nat.reduceAdd, ↓reduceIte]; rfl) mixed (fun C hP hM hC => ?_)
  have hA := c_impl_heighted m ll hs
  obtain ⟨p, d, hc, h1, h2, h3, h4, h5, h6, h7, h8, h9, h10, h11⟩ := hg_yes h
  have f := mzL_facts (m := (p : Int)) (by omega) (pc ll) d (varL d) p
  have hX := c_impl_Plane_byPrime (p : Int) ll d (by omega) (by omega) h7 h4 h5
  rw [← h8] at f hX
  rw [ht_ord f.1 h9, ← h1] at hX
  have hE : shL m ll = tab (d / (htX m ll).1) (fun k => at' (pmL m ll) ((k + 1) * (htX m ll).1)) := by
    unfold shL serH
    rw [if_neg (by omega), show ll.length - 1 = d by omega]
  rw [hE, h]
  generalize hNe : (htX m ll).1 = N at *
  generalize pmL m ll = P at *
  have hlen := f.1
  have hG := c_impl_Series_degree m P (by omega)
  (repeat (first | ((with_reducible refine rgn_cons rfl (fun K hK => ?_)); simp only [go_sem, seval, ↓reduceIte, decide_true, decide_false, hc, show ((0 : Int) != 0) = false from rfl, show ((N : Int) == 0) = false by rw [beq_eq_false_iff_ne]; omega]; (first | refine hK _ _ _ (by simp only [go_sem, Nat.reduceEqDiff, ↓reduceIte]; rfl) ?_ | refine ⟨_, hA, hK _ _ _ (by simp only [go_sem, Nat.reduceEqDiff, ↓reduceIte]; rfl) ?_⟩ | refine ⟨_, hX, hK _ _ _ (by simp only [go_sem, Nat.reduceEqDiff, ↓reduceIte]; rfl) ?_⟩); clear hK; clear K) | (with_reducible first | refine rgn_nil (by first | trivial | kernel_rfl) ?_ | refine AWP.seq ?_ | refine tX hC hP (by kernel_rfl) ?_ | refine aX hC hM hP (by kernel_rfl) ?_ | refine AWP.skip ?_ | refine AWP.label ?_ | refine AWP.exit ?_ | refine AWP.block ?_ | refine cT (by simp only [go_sem, Nat.reduceEqDiff, ↓reduceIte]; with_reducible rfl) ?_ | refine cF (by simp only [go_sem, Nat.reduceEqDiff, ↓reduceIte]; with_reducible rfl) ?_) | simp only [qS, Nat.reduceEqDiff, ↓reduceIte]))
  refine AWP.loop (fun w : Nat × Nat => [(8, ⟨0, .val (.int .i64 ((w.1 + 1) * N : Nat))⟩), (6, ⟨0, .val (.int .i64 N)⟩), (5, ⟨2, .own (.box 28 (.agg [.int .i64 m, .sl true 2 (intL P)]))⟩), (7, ⟨w.2, .own (.sl true 2 (intL (tab w.1 (fun k => at' P ((k + 1) * N)))))⟩)]) (fun w => w.1 ≤ d / N) (fun w => d / N - w.1) (0, 1) (Nat.zero_le _) (fun i => rfl) ?_ (fun w hw => ?_)
  · simp [Sub, lk, tab_nil, intL]
  · obtain ⟨j, v⟩ := w
    simp only at hw ⊢
    have hdN : d / N ≤ d := Nat.div_le_self _ _
    have hjN : j * N ≤ d := Nat.le_trans (Nat.mul_le_mul_right N hw) (Nat.div_mul_le_self d N)
    have hs1 : (j + 1) * N = j * N + N := Nat.succ_mul ..
    have hs2 : (j + 1) * N + N = (j + 1 + 1) * N := (Nat.succ_mul ..).symm
    by_cases hq : (j + 1) * N < P.length
    · have hj2 : j + 1 ≤ d / N := (Nat.le_div_iff_mul_le h10).2 (by omega)
      (repeat (first | ((with_reducible refine rgn_cons rfl (fun K hK => ?_)); simp only [go_sem, seval, ↓reduceIte, decide_true, decide_false, show (((j + 1) * N : Nat) : Int) ≤ (P.length : Int) - 1 by omega, show (((j + 1) * N : Nat) : Int) < (P.length : Int) by omega, decide_true, Int.natCast_nonneg, Int.toNat_natCast, intL_get _ _ hq, sizeL_take _ _ (Nat.le_of_lt hq), Nat.mul_one, show P.getD ((j + 1) * N) 0 = at' P ((j + 1) * N) from rfl, tab_length, intL_snoc, tab_succ j (fun k => at' P ((k + 1) * N)), show j + 1 ≤ 1099511627776 by omega, show (j + 1) * 8 ≤ 140737488355328 by omega, ← Int.natCast_add, hs2, wid (((j + 1 + 1) * N : Nat) : Int) (by omega) (by omega)]; (first | refine hK _ _ _ (by simp only [go_sem, Nat.reduceEqDiff, ↓reduceIte]; rfl) ?_ | refine ⟨_, hG, hK _ _ _ (by simp only [go_sem, Nat.reduceEqDiff, ↓reduceIte]; rfl) ?_⟩); clear hK; clear K) | (with_reducible first | refine rgn_nil (by first | trivial | kernel_rfl) ?_ | refine AWP.seq ?_ | refine tX hC hP (by kernel_rfl) ?_ | refine aX hC hM hP (by kernel_rfl) ?_ | refine AWP.skip ?_ | refine AWP.label ?_ | refine AWP.exit ?_ | refine AWP.block ?_ | refine cT (by simp only [go_sem, Nat.reduceEqDiff, ↓reduceIte]; with_reducible rfl) ?_ | refine cF (by simp only [go_sem, Nat.reduceEqDiff, ↓reduceIte]; with_reducible rfl) ?_) | simp only [qS, Nat.reduceEqDiff, ↓reduceIte]))
      exact ⟨(j + 1, v + 1), hj2, by simp only; omega, by simp [Sub, lk]⟩
    · have hj2 : j = d / N := by
        refine Classical.byContradiction fun e => ?_
        have := (Nat.le_div_iff_mul_le h10).1 (show j + 1 ≤ d / N by omega)
        omega
      (repeat (first | ((with_reducible refine rgn_cons rfl (fun K hK => ?_)); simp only [go_sem, seval, ↓reduceIte, decide_true, decide_false, show ¬ (((j + 1) * N : Nat) : Int) ≤ (P.length : Int) - 1 by omega, decide_false]; (first | refine hK _ _ _ (by simp only [go_sem, Nat.reduceEqDiff, ↓reduceIte]; rfl) ?_ | refine ⟨_, hG, hK _ _ _ (by simp only [go_sem, Nat.reduceEqDiff, ↓reduceIte]; rfl) ?_⟩); clear hK; clear K) | (with_reducible first | refine rgn_nil (by first | trivial | kernel_rfl) ?_ | refine AWP.seq ?_ | refine tX hC hP (by kernel_rfl) ?_ | refine aX hC hM hP (by kernel_rfl) ?_ | refine AWP.skip ?_ | refine AWP.label ?_ | refine AWP.exit ?_ | refine AWP.block ?_ | refine cT (by simp only [go_sem, Nat.reduceEqDiff, ↓reduceIte]; with_reducible rfl) ?_ | refine cF (by simp only [go_sem, Nat.reduceEqDiff, ↓reduceIte]; with_reducible rfl) ?_) | simp only [qS, Nat.reduceEqDiff, ↓reduceIte]))
      (refine AWP.ret ?_; first | refine retOk1 (by simp only [go_sem, seval, ↓reduceIte, decide_true, decide_false]; rfl) ?_ | refine retOk2 (by simp only [go_sem, seval, ↓reduceIte, decide_true, decide_false]; rfl) (by simp only [go_sem, seval, ↓reduceIte, decide_true, decide_false]; rfl) (by simp) ?_ | refine retOk3 (by simp only [go_sem, seval, ↓reduceIte, decide_true, decide_false]; rfl) (by simp only [go_sem, seval, ↓reduceIte, decide_true, decide_false]; rfl) (by simp only [go_sem, seval, ↓reduceIte, decide_true, decide_false]; rfl) (by simp) ?_)
      rw [hj2]
theorem c_impl_SeriesOfHeight_no (m : Int) (ll : List (List Int)) (hs : Sm ll) (h : ¬ hgC m ll = 0) : AFn Try.prog 41 [.agg [.int .i64 m, .sl false 26 (rowsF ll)]] (.tup [.nil, .int .i64 (hgC m ll)]) := by
  refine AFn.of' ttOk (by decide) Try.func41 Try.ntmps41 (by rw [Try.results41]) (by rfl) (by rfl) (by simp) (by decide) (by simp only [go_sem, Nat.reduceAdd, ↓reduceIte]; rfl) mixed (fun C hP hM hC => ?_)
  have hA := c_impl_heighted m ll hs
  rcases hg_cases (m := m) (ll := ll) with ⟨h1, h2⟩ | ⟨p, d, hc, h1, h2, h3, h4, h5, h6, h7, h8, h9, h10 | h10⟩
  · (repeat (first | ((with_reducible refine rgn_cons rfl (fun K hK => ?_)); simp only [go_sem, seval, ↓reduceIte, decide_true, decide_false, show (htC m ll != 0) = true by simpa using h1]; (first | refine hK _ _ _ (by simp only [go_sem, Nat.reduceEqDiff, ↓reduceIte]; rfl) ?_ | refine ⟨_, hA, hK _ _ _ (by simp only [go_sem, Nat.reduceEqDiff, ↓reduceIte]; rfl) ?_⟩); clear hK; clear K) | (with_reducible first | refine rgn_nil (by first | trivial | kernel_rfl) ?_ | refine AWP.seq ?_ | refine tX hC hP (by kernel_rfl) ?_ | refine aX hC hM hP (by kernel_rfl) ?_ | refine AWP.skip ?_ | refine AWP.label ?_ | refine AWP.exit ?_ | refine AWP.block ?_ | refine cT (by simp only [go_sem, Nat.reduceEqDiff, ↓reduceIte]; with_reducible rfl) ?_ | refine cF (by simp only [go_sem, Nat.reduceEqDiff, ↓reduceIte]; with_reducible rfl) ?_) | simp only [qS, Nat.reduceEqDiff, ↓reduceIte]))
    (refine AWP.ret ?_; first | refine retOk1 (by simp only [go_sem, seval, ↓reduceIte, decide_true, decide_false]; rfl) ?_ | refine retOk2 (by simp only [go_sem, seval, ↓reduceIte, decide_true, decide_false]; rfl) (by simp only [go_sem, seval, ↓reduceIte, decide_true, decide_false]; rfl) (by simp) ?_ | refine retOk3 (by simp only [go_sem, seval, ↓reduceIte, decide_true, decide_false]; rfl) (by simp only [go_sem, seval, ↓reduceIte, decide_true, decide_false]; rfl) (by simp only [go_sem, seval, ↓reduceIte, decide_true, decide_false]; rfl) (by simp) ?_)
    rw [h2]
  · have f := mzL_facts (m := (p : Int)) (by omega) (pc ll) d (varL d) p
    have hX := c_impl_Plane_byPrime (p : Int) ll d (by omega) (by omega) h7 h4 h5
    rw [← h8] at f hX
    rw [ht_ord f.1 h9, ← h1, h10.1, Int.natCast_zero] at hX
    (repeat (first | ((with_reducible refine rgn_cons rfl (fun K hK => ?_)); simp only [go_sem, seval, ↓reduceIte, decide_true, decide_false, hc, show ((0 : Int) != 0) = false from rfl, show ((0 : Int) == 0) = true from rfl]; (first | refine hK _ _ _ (by simp only [go_sem, Nat.reduceEqDiff, ↓reduceIte]; rfl) ?_ | refine ⟨_, hA, hK _ _ _ (by simp only [go_sem, Nat.reduceEqDiff, ↓reduceIte]; rfl) ?_⟩ | refine ⟨_, hX, hK _ _ _ (by simp only [go_sem, Nat.reduceEqDiff, ↓reduceIte]; rfl) ?_⟩); clear hK; clear K) | (with_reducible first | refine rgn_nil (by first | trivial | kernel_rfl) ?_ | refine AWP.seq ?_ | refine tX hC hP (by kernel_rfl) ?_ | refine aX hC hM hP (by kernel_rfl) ?_ | refine AWP.skip ?_ | refine AWP.label ?_ | refine AWP.exit ?_ | refine AWP.block ?_ | refine cT (by simp only [go_sem, Nat.reduceEqDiff, ↓reduceIte]; with_reducible rfl) ?_ | refine cF (by simp only [go_sem, Nat.reduceEqDiff, ↓reduceIte]; with_reducible rfl) ?_) | simp only [qS, Nat.reduceEqDiff, ↓reduceIte]))
    (refine AWP.ret ?_; first | refine retOk1 (by simp only [go_sem, seval, ↓reduceIte, decide_true, decide_false]; rfl) ?_ | refine retOk2 (by simp only [go_sem, seval, ↓reduceIte, decide_true, decide_false]; rfl) (by simp only [go_sem, seval, ↓reduceIte, decide_true, decide_false]; rfl) (by simp) ?_ | refine retOk3 (by simp only [go_sem, seval, ↓reduceIte, decide_true, decide_false]; rfl) (by simp only [go_sem, seval, ↓reduceIte, decide_true, decide_false]; rfl) (by simp only [go_sem, seval, ↓reduceIte, decide_true, decide_false]; rfl) (by simp) ?_)
    rw [h10.2.2]
  · exact absurd h10.2.2 h
theorem c_spec_UnitOfHeight (m : Int) (ll : List (List Int)) (hs : Sm ll) : AFn Try.prog 38 [.agg [.int .i64 m, .sl false 26 (rowsF ll)]] (.tup [.int .i64 (unV m ll), .int .i64 (hgC m ll)]) := by
  refine AFn.of' ttOk (by decide) Try.func38 Try.ntmps38 (by rw [Try.results38]) (by rfl) (by rfl) (by simp) (by decide) (by simp only [go_sem, Nat.reduceAdd, ↓reduceIte]; rfl) mixed (fun C hP hM hC => ?_)
  have hA := c_spec_l10Code m ll hs
  rcases hg_cases (m := m) (ll := ll) with ⟨h1, h2⟩ | ⟨p, d, hc, h1, h2, h3, h4, h5, h6, h7, h8, h9, h10 | h10⟩
  · (repeat (first | ((with_reducible refine rgn_cons rfl (fun K hK => ?_)); simp only [go_sem, seval, ↓reduceIte, decide_true, decide_false, show (htC m ll != 0) = true by simpa using h1]; (first | refine hK _ _ _ (by simp only [go_sem, Nat.reduceEqDiff, ↓reduceIte]; rfl) ?_ | refine ⟨_, hA, hK _ _ _ (by simp only [go_sem, Nat.reduceEqDiff, ↓reduceIte]; rfl) ?_⟩); clear hK; clear K) | (with_reducible first | refine rgn_nil (by first | trivial | kernel_rfl) ?_ | refine AWP.seq ?_ | refine tX hC hP (by kernel_rfl) ?_ | refine aX hC hM hP (by kernel_rfl) ?_ | refine AWP.skip ?_ | refine AWP.label ?_ | refine AWP.exit ?_ | refine AWP.block ?_ | refine cT (by simp only [go_sem, Nat.reduceEqDiff, ↓reduceIte]; with_reducible rfl) ?_ | refine cF (by simp only [go_sem, Nat.reduceEqDiff, ↓reduceIte]; with_reducible rfl) ?_) | simp only [qS, Nat.reduceEqDiff, ↓reduceIte]))
    (refine AWP.ret ?_; first | refine retOk1 (by simp only [go_sem, seval, ↓reduceIte, decide_true, decide_false]; rfl) ?_ | refine retOk2 (by simp only [go_sem, seval, ↓reduceIte, decide_true, decide_false]; rfl) (by simp only [go_sem, seval, ↓reduceIte, decide_true, decide_false]; rfl) (by simp) ?_ | refine retOk3 (by simp only [go_sem, seval, ↓reduceIte, decide_true, decide_false]; rfl) (by simp only [go_sem, seval, ↓reduceIte, decide_true, decide_false]; rfl) (by simp only [go_sem, seval, ↓reduceIte, decide_true, decide_false]; rfl) (by simp) ?_)
    simp [unV, h2, h1]
  · have hX := c_spec_l10Series p (htX m ll).1 (htX m ll).2 d ll h2 h3 h7 h4 h5 (by rw [← h8]; exact h9)
    rw [← h8, ← h1, show serH (pmL m ll) (htX m ll).1 d = [] from if_pos h10.1] at hX
    (repeat (first | ((with_reducible refine rgn_cons rfl (fun K hK => ?_)); simp only [go_sem, seval, ↓reduceIte, decide_true, decide_false, hc, show ((0 : Int) != 0) = false from rfl, List.length_nil, Int.natCast_zero, show ((0 : Int) == 0) = true from rfl]; (first | refine hK _ _ _ (by simp only [go_sem, Nat.reduceEqDiff, ↓reduceIte]; rfl) ?_ | refine ⟨_, hA, hK _ _ _ (by simp only [go_sem, Nat.reduceEqDiff, ↓reduceIte]; rfl) ?_⟩ | refine ⟨_, hX, hK _ _ _ (by simp only [go_sem, Nat.reduceEqDiff, ↓reduceIte]; rfl) ?_⟩); clear hK; clear K) | (with_reducible first | refine rgn_nil (by first | trivial | kernel_rfl) ?_ | refine AWP.seq ?_ | refine tX hC hP (by kernel_rfl) ?_ | refine aX hC hM hP (by kernel_rfl) ?_ | refine AWP.skip ?_ | refine AWP.label ?_ | refine AWP.exit ?_ | refine AWP.block ?_ | refine cT (by simp only [go_sem, Nat.reduceEqDiff, ↓reduceIte]; with_reducible rfl) ?_ | refine cF (by simp only [go_sem, Nat.reduceEqDiff, ↓reduceIte]; with_reducible rfl) ?_) | simp only [qS, Nat.reduceEqDiff, ↓reduceIte]))
    (refine AWP.ret ?_; first | refine retOk1 (by simp only [go_sem, seval, ↓reduceIte, decide_true, decide_false]; rfl) ?_ | refine retOk2 (by simp only [go_sem, seval, ↓reduceIte, decide_true, decide_false]; rfl) (by simp only [go_sem, seval, ↓reduceIte, decide_true, decide_false]; rfl) (by simp) ?_ | refine retOk3 (by simp only [go_sem, seval, ↓reduceIte, decide_true, decide_false]; rfl) (by simp only [go_sem, seval, ↓reduceIte, decide_true, decide_false]; rfl) (by simp only [go_sem, seval, ↓reduceIte, decide_true, decide_false]; rfl) (by simp) ?_)
    simp [unV, h10.2.2]
  · have hX := c_spec_l10Series p (htX m ll).1 (htX m ll).2 d ll h2 h3 h7 h4 h5 (by rw [← h8]; exact h9)
    rw [← h8, ← h1] at hX
    have hp := serH_pos (P := pmL m ll) h10.1 h10.2.1
    have e : unV m ll = (serH (pmL m ll) (htX m ll).1 d).getD 0 0 := by rw [hp.2]; exact if_pos h10.2.2
    rw [e, h10.2.2]
    generalize serH (pmL m ll) (htX m ll).1 d = S at *
    (repeat (first | ((with_reducible refine rgn_cons rfl (fun K hK => ?_)); simp only [go_sem, seval, ↓reduceIte, decide_true, decide_false, hc, show ((0 : Int) != 0) = false from rfl, show ((S.length : Int) == 0) = false by rw [beq_eq_false_iff_ne]; omega, Int.le_refl, Int.toNat_zero, show (0 : Int) < (S.length : Int) by omega, intL_get _ _ hp.1, sizeL_take _ _ (Nat.zero_le S.length), Nat.mul_one]; (first | refine hK _ _ _ (by simp only [go_sem, Nat.reduceEqDiff, ↓reduceIte]; rfl) ?_ | refine ⟨_, hA, hK _ _ _ (by simp only [go_sem, Nat.reduceEqDiff, ↓reduceIte]; rfl) ?_⟩ | refine ⟨_, hX, hK _ _ _ (by simp only [go_sem, Nat.reduceEqDiff, ↓reduceIte]; rfl) ?_⟩); clear hK; clear K) | (with_reducible first | refine rgn_nil (by first | trivial | kernel_rfl) ?_ | refine AWP.seq ?_ | refine tX hC hP (by kernel_rfl) ?_ | refine aX hC hM hP (by kernel_rfl) ?_ | refine AWP.skip ?_ | refine AWP.label ?_ | refine AWP.exit ?_ | refine AWP.block ?_ | refine cT (by simp only [go_sem, Nat.reduceEqDiff, ↓reduceIte]; with_reducible rfl) ?_ | refine cF (by simp only [go_sem, Nat.reduceEqDiff, ↓reduceIte]; with_reducible rfl) ?_) | simp only [qS, Nat.reduceEqDiff, ↓reduceIte]))
    (refine AWP.ret ?_; first | refine retOk1 (by simp only [go_sem, seval, ↓reduceIte, decide_true, decide_false]; rfl) ?_ | refine retOk2 (by simp only [go_sem, seval, ↓reduceIte, decide_true, decide_false]; rfl) (by simp only [go_sem, seval, ↓reduceIte, decide_true, decide_false]; rfl) (by simp) ?_ | refine retOk3 (by simp only [go_sem, seval, ↓reduceIte, decide_true, decide_false]; rfl) (by simp only [go_sem, seval, ↓reduceIte, decide_true, decide_false]; rfl) (by simp only [go_sem, seval, ↓reduceIte, decide_true, decide_false]; rfl) (by simp) ?_)
    rfl
theorem c_impl_UnitOfHeight (m : Int) (ll : List (List Int)) (hs : Sm ll) : AFn Try.prog 39 [.agg [.int .i64 m, .sl false 26 (rowsF ll)]] (.tup [.int .i64 (unV m ll), .int .i64 (hgC m ll)]) := by
  refine AFn.of' ttOk (by decide) Try.func39 Try.ntmps39 (by rw [Try.results39]) (by rfl) (by rfl) (by simp) (by decide) (by simp only [go_sem, Nat.reduceAdd, ↓reduceIte]; rfl) mixed (fun C hP hM hC => ?_)
  by_cases h : hgC m ll = 0
  · obtain ⟨p, d, hc, h1, h2, h3, h4, h5, h6, h7, h8, h9, h10, h11⟩ := hg_yes h
    have hp := serH_pos (P := pmL m ll) h10 (show (htX m ll).1 ≤ ll.length - 1 by omega)
    have e : unV m ll = (shL m ll).getD 0 0 := by unfold shL; rw [hp.2]; exact if_pos h
    have hX := c_impl_SeriesOfHeight_ok m ll hs h
    have hp1 : 0 < (shL m ll).length := hp.1
    rw [h] at hX ⊢
    rw [e]
    generalize shL m ll = S at *
    (repeat (first | ((with_reducible refine rgn_cons rfl (fun K hK => ?_)); simp only [go_sem, seval, ↓reduceIte, decide_true, decide_false, show ((0 : Int) != 0) = false from rfl, Int.le_refl, Int.toNat_zero, show (0 : Int) < (S.length : Int) by omega, intL_get _ _ hp1, sizeL_take _ _ (Nat.zero_le S.length), Nat.mul_one]; (first | refine hK _ _ _ (by simp only [go_sem, Nat.reduceEqDiff, ↓reduceIte]; rfl) ?_ | refine ⟨_, hX, hK _ _ _ (by simp only [go_sem, Nat.reduceEqDiff, ↓reduceIte]; rfl) ?_⟩); clear hK; clear K) | (with_reducible first | refine rgn_nil (by first | trivial | kernel_rfl) ?_ | refine AWP.seq ?_ | refine tX hC hP (by kernel_rfl) ?_ | refine aX hC hM hP (by kernel_rfl) ?_ | refine AWP.skip ?_ | refine AWP.label ?_ | refine AWP.exit ?_ | refine AWP.block ?_ | refine cT (by simp only [go_sem, Nat.reduceEqDiff, ↓reduceIte]; with_reducible rfl) ?_ | refine cF (by simp only [go_sem, Nat.reduceEqDiff, ↓reduceIte]; with_reducible rfl) ?_) | simp only [qS, Nat.reduceEqDiff, ↓reduceIte]))
    (refine AWP.ret ?_; first | refine retOk1 (by simp only [go_sem, seval, ↓reduceIte, decide_true, decide_false]; rfl) ?_ | refine retOk2 (by simp only [go_sem, seval, ↓reduceIte, decide_true, decide_false]; rfl) (by simp only [go_sem, seval, ↓reduceIte, decide_true, decide_false]; rfl) (by simp) ?_ | refine retOk3 (by simp only [go_sem, seval, ↓reduceIte, decide_true, decide_false]; rfl) (by simp only [go_sem, seval, ↓reduceIte, decide_true, decide_false]; rfl) (by simp only [go_sem, seval, ↓reduceIte, decide_true, decide_false]; rfl) (by simp) ?_)
    rfl
  · have hX := c_impl_SeriesOfHeight_no m ll hs h
    (repeat (first | ((with_reducible refine rgn_cons rfl (fun K hK => ?_)); simp only [go_sem, seval, ↓reduceIte, decide_true, decide_false, show (hgC m ll != 0) = true by simpa using h]; (first | refine hK _ _ _ (by simp only [go_sem, Nat.reduceEqDiff, ↓reduceIte]; rfl) ?_ | refine ⟨_, hX, hK _ _ _ (by simp only [go_sem, Nat.reduceEqDiff, ↓reduceIte]; rfl) ?_⟩); clear hK; clear K) | (with_reducible first | refine rgn_nil (by first | trivial | kernel_rfl) ?_ | refine AWP.seq ?_ | refine tX hC hP (by kernel_rfl) ?_ | refine aX hC hM hP (by kernel_rfl) ?_ | refine AWP.skip ?_ | refine AWP.label ?_ | refine AWP.exit ?_ | refine AWP.block ?_ | refine cT (by simp only [go_sem, Nat.reduceEqDiff, ↓reduceIte]; with_reducible rfl) ?_ | refine cF (by simp only [go_sem, Nat.reduceEqDiff, ↓reduceIte]; with_reducible rfl) ?_) | simp only [qS, Nat.reduceEqDiff, ↓reduceIte]))
    (refine AWP.ret ?_; first | refine retOk1 (by simp only [go_sem, seval, ↓reduceIte, decide_true, decide_false]; rfl) ?_ | refine retOk2 (by simp only [go_sem, seval, ↓reduceIte, decide_true, decide_false]; rfl) (by simp only [go_sem, seval, ↓reduceIte, decide_true, decide_false]; rfl) (by simp) ?_ | refine retOk3 (by simp only [go_sem, seval, ↓reduceIte, decide_true, decide_false]; rfl) (by simp only [go_sem, seval, ↓reduceIte, decide_true, decide_false]; rfl) (by simp only [go_sem, seval, ↓reduceIte, decide_true, decide_false]; rfl) (by simp) ?_)
    simp [unV, h]
end Go.Proofs.Ytamdpfnmclkljaa
