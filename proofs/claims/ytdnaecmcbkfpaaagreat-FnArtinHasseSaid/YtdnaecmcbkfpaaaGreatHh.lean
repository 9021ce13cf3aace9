/-
  The Artin-Hasse series.
-/
import Derived.Test.YtdnaecmcbkfpaaaGreatHe
import Derived.Test.YtdnaecmcbkfpaaaGreatHf
import Derived.Test.YtdnaecmcbkfpaaaGreatLd
namespace Go.Proofs.YtdnaecmcbkfpaaaGreat
open Go.RowKit
set_option linter.unusedSimpArgs false
set_option linter.unusedVariables false
set_option linter.unusedSectionVars false
set_option maxRecDepth 20000
-- The Artin-Hasse series.
def ahV (p : Nat) (m : Int) (n : Nat) : Int := (((ahTB p n).1.getD n 0 : Nat) : Int) % m * invL m ((((ahTB p n).2.getD n 0 : Nat) : Int) % m) % m
theorem ahL_eq (p : Nat) (m : Int) (d : Nat) : ahL p m d = tab (d + 1) (ahV p m) := rfl
set_option maxHeartbeats 1000000 in
theorem c_spec_l15Series (p : Nat) (m : Int) (d : Nat) (hp : IsP p) (hm : 1 < m) (hm2 : m ≤ 10000) (hd : d ≤ 10) : AFn Tryz.prog 44 [.int .i64 p, .int .i64 m, .int .i64 d] (.sl true 2 (intL (ahL p m d))) := by
  refine AFn.of' ttOk (by decide) Tryz.func44 Tryz.ntmps44 (by rw [Tryz.results44]) (by rfl) (by rfl) (by simp) (by decide) (by simp only [go_sem, Nat.reduceAdd, ↓reduceIte]; rfl) mixed (fun C hP hM hC => ?_)
  (repeat (first | ((with_reducible refine rgn_cons rfl (fun K hK => ?_)); simp only [go_sem, seval, ↓reduceIte, decide_true, decide_false]; (refine hK _ _ _ (by simp only [go_sem, Nat.reduceEqDiff, ↓reduceIte]; rfl) ?_); clear hK; clear K) | (with_reducible first | refine rgn_nil (by first | trivial | kernel_rfl) ?_ | refine AWP.seq ?_ | refine tX hC hP (by kernel_rfl) ?_ | refine aX hC hM hP (by kernel_rfl) ?_ | refine AWP.skip ?_ | refine AWP.label ?_ | refine AWP.exit ?_ | refine AWP.block ?_ | refine cTa ?_ | refine cFa ?_) | simp only [qS, Nat.reduceEqDiff, ↓reduceIte]))
  refine AWP.loop (fun w : Nat × Nat => [(8, ⟨0, .val (.int .i64 w.1)⟩), (7, ⟨w.2, .own (.sl true 2 (intL (tab w.1 (ahV p m))))⟩), (0, ⟨0, .val (.int .i64 p)⟩), (1, ⟨0, .val (.int .i64 m)⟩), (2, ⟨0, .val (.int .i64 d)⟩)]) (fun w => w.1 ≤ d + 1) (fun w => d + 1 - w.1) (0, 1) (Nat.zero_le _) (fun i => rfl) ?_ (fun w hw => ?_)
  · simp [Sub, lk, tab_nil, intL]
  · obtain ⟨n, v⟩ := w
    simp only at hw ⊢
    by_cases hn : n ≤ d
    · have hF := c_spec_l15Fraction p n hp (by omega)
      have hx := emod_b (((ahTB p n).1.getD n 0 : Nat) : Int) m (by omega)
      have hy := invL_bound m ((((ahTB p n).2.getD n 0 : Nat) : Int) % m) (by omega)
      have h1 := mul_bound4 hx.1 hx.2 hy.1 hy.2 hm2
      have hsn := tab_succ n (ahV p m)
      simp only [ahV] at hsn
      (repeat (first | ((with_reducible refine rgn_cons rfl (fun K hK => ?_)); simp only [go_sem, seval, ↓reduceIte, decide_true, decide_false, show (n : Int) ≤ (d : Int) by omega, decide_true, show m ≠ 0 by omega, tm _ m (Int.natCast_nonneg _), wid _ (Int.le_trans (by decide) h1.1) (Int.le_trans h1.2 (by decide)), tm _ m h1.1, tab_length, intL_snoc, hsn, show n + 1 ≤ 1099511627776 by omega, show (n + 1) * 8 ≤ 140737488355328 by omega, wid ((n : Int) + 1) (by omega) (by omega)]; (first | refine hK _ _ _ (by simp only [go_sem, Nat.reduceEqDiff, ↓reduceIte]; rfl) ?_ | refine ⟨_, hF, hK _ _ _ (by simp only [go_sem, Nat.reduceEqDiff, ↓reduceIte]; rfl) ?_⟩ | refine ⟨_, c_spec_l01Inv m _ (by omega) (by omega), hK _ _ _ (by simp only [go_sem, Nat.reduceEqDiff, ↓reduceIte]; rfl) ?_⟩); clear hK; clear K) | (with_reducible first | refine rgn_nil (by first | trivial | kernel_rfl) ?_ | refine AWP.seq ?_ | refine tX hC hP (by kernel_rfl) ?_ | refine aX hC hM hP (by kernel_rfl) ?_ | refine AWP.skip ?_ | refine AWP.label ?_ | refine AWP.exit ?_ | refine AWP.block ?_ | refine cTa ?_ | refine cFa ?_) | simp only [qS, Nat.reduceEqDiff, ↓reduceIte]))
      exact ⟨(n + 1, v + 1), by simp only; omega, by simp only; omega, by simp [Sub, lk, ahV]⟩
    · (repeat (first | ((with_reducible refine rgn_cons rfl (fun K hK => ?_)); simp only [go_sem, seval, ↓reduceIte, decide_true, decide_false, show ¬ (n : Int) ≤ (d : Int) by omega, decide_false]; (refine hK _ _ _ (by simp only [go_sem, Nat.reduceEqDiff, ↓reduceIte]; rfl) ?_); clear hK; clear K) | (with_reducible first | refine rgn_nil (by first | trivial | kernel_rfl) ?_ | refine AWP.seq ?_ | refine tX hC hP (by kernel_rfl) ?_ | refine aX hC hM hP (by kernel_rfl) ?_ | refine AWP.skip ?_ | refine AWP.label ?_ | refine AWP.exit ?_ | refine AWP.block ?_ | refine cTa ?_ | refine cFa ?_) | simp only [qS, Nat.reduceEqDiff, ↓reduceIte]))
      (refine AWP.ret ?_; refine retOk1 (by simp only [go_sem, seval, ↓reduceIte, decide_true, decide_false]; rfl) ?_)
      rw [show n = d + 1 by omega]; rfl
set_option maxHeartbeats 1000000 in
theorem c_impl_artinHasseSeries (p : Nat) (m : Int) (d : Nat) (hp : IsP p) (hm : 1 < m) (hm2 : m ≤ 10000) (hd : d ≤ 10) : AFn Tryz.prog 41 [.int .i64 p, .int .i64 m, .int .i64 d] (.agg [.int .i64 m, .sl true 2 (intL (ahL p m d))]) := by
  refine AFn.of' ttOk (by decide) Tryz.func41 Tryz.ntmps41 (by rw [Tryz.results41]) (by rfl) (by rfl) (by simp) (by decide) (by simp only [go_sem, Nat.reduceAdd, ↓reduceIte]; rfl) mixed (fun C hP hM hC => ?_)
  have hl := ahTB_length p d
  (repeat (first | ((with_reducible refine rgn_cons rfl (fun K hK => ?_)); simp only [go_sem, seval, ↓reduceIte, decide_true, decide_false, nL_length, hl.1]; (first | refine hK _ _ _ (by simp only [go_sem, Nat.reduceEqDiff, ↓reduceIte]; rfl) ?_ | refine ⟨_, c_impl_artinHasse p d hp hd, hK _ _ _ (by simp only [go_sem, Nat.reduceEqDiff, ↓reduceIte]; rfl) ?_⟩ | refine ⟨_, c_impl_zero m (d : Int) (d + 1) (by omega) (by omega), hK _ _ _ (by simp only [go_sem, Nat.reduceEqDiff, ↓reduceIte]; rfl) ?_⟩); clear hK; clear K) | (with_reducible first | refine rgn_nil (by first | trivial | kernel_rfl) ?_ | refine AWP.seq ?_ | refine tX hC hP (by kernel_rfl) ?_ | refine aX hC hM hP (by kernel_rfl) ?_ | refine AWP.skip ?_ | refine AWP.label ?_ | refine AWP.exit ?_ | refine AWP.block ?_ | refine cTa ?_ | refine cFa ?_) | simp only [qS, Nat.reduceEqDiff, ↓reduceIte]))
  refine AWP.loop (fun i : Nat => [(23, ⟨0, .val (.int .i64 i)⟩), (22, ⟨0, .val (.int .i64 (d + 1 : Nat))⟩), (21, ⟨0, .val (.ref 7 1 [])⟩), (9, ⟨2, .own (.box 31 (.agg [.int .i64 m, .sl true 2 (intL (tab (d + 1) (fun j => if j < i then ahV p m j else 0)))]))⟩), (7, ⟨1, .own (.sl true 2 (intL (nL (ahTB p d).1)))⟩), (8, ⟨1, .own (.sl true 2 (intL (nL (ahTB p d).2)))⟩), (1, ⟨0, .val (.int .i64 m)⟩), (6, ⟨1, .own (.box 31 (.agg [.int .i64 0, .nil]))⟩)]) (fun i => i ≤ d + 1) (fun i => d + 1 - i) 0 (Nat.zero_le _) (fun i => rfl) ?_ (fun i hi => ?_)
  · simp [Sub, lk]
  · by_cases hlt : i < d + 1
    · have hI : (i : Int) < ((d + 1 : Nat) : Int) := by omega
      have hk1 : i < (nL (ahTB p d).1).length := by rw [nL_length]; omega
      have hk2 : i < (nL (ahTB p d).2).length := by rw [nL_length]; omega
      have hpre := ahTB_pre p (i := i) d (by omega)
      have hx := emod_b (((ahTB p i).1.getD i 0 : Nat) : Int) m (by omega)
      have hy := invL_bound m ((((ahTB p i).2.getD i 0 : Nat) : Int) % m) (by omega)
      have h1 := mul_bound4 hx.1 hx.2 hy.1 hy.2 hm2
      have hlen : i < (tab (d + 1) (fun j => if j < i then ahV p m j else 0)).length := by rw [tab_length]; exact hlt
      have hst := upto_set (n := d + 1) (i := i) (f := ahV p m)
      rw [show ahV p m i = (((ahTB p i).1.getD i 0 : Nat) : Int) % m * invL m ((((ahTB p i).2.getD i 0 : Nat) : Int) % m) % m from rfl] at hst
      (repeat (first | ((with_reducible refine rgn_cons rfl (fun K hK => ?_)); simp only [go_sem, seval, ↓reduceIte, decide_true, decide_false, hI, decide_true, show m ≠ 0 by omega, Int.toNat_natCast, Int.natCast_nonneg, intL_get _ _ hk1, intL_get _ _ hk2, sizeL_take _ _ (Nat.le_of_lt hk1), sizeL_take _ _ (Nat.le_of_lt hk2), Nat.mul_one, nL_get, nL_length, hl.1, hl.2, hpre.1, hpre.2, wid _ (Int.le_trans (by decide) h1.1) (Int.le_trans h1.2 (by decide)), tm _ m h1.1, tab_length, intL_get _ _ hlen, sizeL_take _ _ (Nat.le_of_lt hlen), intL_modify, hst, wid ((i : Int) + 1) (by omega) (by omega)]; (first | refine hK _ _ _ (by simp only [go_sem, Nat.reduceEqDiff, ↓reduceIte]; rfl) ?_ | refine ⟨_, c_impl_mod _ m (by omega) (by omega), hK _ _ _ (by simp only [go_sem, Nat.reduceEqDiff, ↓reduceIte]; rfl) ?_⟩ | refine ⟨_, c_impl_inverse m _ (by omega) (by omega), hK _ _ _ (by simp only [go_sem, Nat.reduceEqDiff, ↓reduceIte]; rfl) ?_⟩); clear hK; clear K) | (with_reducible first | refine rgn_nil (by first | trivial | kernel_rfl) ?_ | refine AWP.seq ?_ | refine tX hC hP (by kernel_rfl) ?_ | refine aX hC hM hP (by kernel_rfl) ?_ | refine AWP.skip ?_ | refine AWP.label ?_ | refine AWP.exit ?_ | refine AWP.block ?_ | refine cTa ?_ | refine cFa ?_) | simp only [qS, Nat.reduceEqDiff, ↓reduceIte]))
      exact ⟨i + 1, by omega, by omega, by simp [Sub, lk]⟩
    · (repeat (first | ((with_reducible refine rgn_cons rfl (fun K hK => ?_)); simp only [go_sem, seval, ↓reduceIte, decide_true, decide_false, show ¬ (i : Int) < ((d + 1 : Nat) : Int) by omega, decide_false]; (refine hK _ _ _ (by simp only [go_sem, Nat.reduceEqDiff, ↓reduceIte]; rfl) ?_); clear hK; clear K) | (with_reducible first | refine rgn_nil (by first | trivial | kernel_rfl) ?_ | refine AWP.seq ?_ | refine tX hC hP (by kernel_rfl) ?_ | refine aX hC hM hP (by kernel_rfl) ?_ | refine AWP.skip ?_ | refine AWP.label ?_ | refine AWP.exit ?_ | refine AWP.block ?_ | refine cTa ?_ | refine cFa ?_) | simp only [qS, Nat.reduceEqDiff, ↓reduceIte]))
      (refine AWP.ret ?_; refine retOk1 (by simp only [go_sem, seval, ↓reduceIte, decide_true, decide_false]; rfl) ?_)
      rw [upto_end (f := ahV p m) (by omega)]; rfl
end Go.Proofs.YtdnaecmcbkfpaaaGreat
