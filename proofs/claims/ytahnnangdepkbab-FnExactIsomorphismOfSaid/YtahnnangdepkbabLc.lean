/-
  The laws' helpers.
-/
import Derived.Test.YtahnnangdepkbabLa
namespace Go.Proofs.Ytahnnangdepkbab
open Go.RowKit
set_option linter.unusedSimpArgs false
set_option linter.unusedVariables false
set_option linter.unusedSectionVars false
set_option maxRecDepth 20000
-- The laws' helpers.
theorem intL_get (c : List Int) (i : Nat) (h : i < c.length) : (intL c)[i]? = some (.int .i64 (c.getD i 0)) := by
  simp [intL, List.getD_eq_getElem?_getD, h]
theorem sizeL_intL : ∀ (c : List Int), T.sizeL (intL c) = c.length
  | [] => rfl
  | x :: c => by
    have := sizeL_intL c
    simp only [intL, List.map_cons, T.sizeL, T.size, List.length_cons] at this ⊢
    omega
theorem sizeL_take (c : List Int) (i : Nat) (h : i ≤ c.length) : T.sizeL ((intL c).take i) = i := by
  rw [show (intL c).take i = intL (c.take i) by simp [intL], sizeL_intL]
  simp [h]
theorem intL_modify (c : List Int) (i : Nat) (v : Int) : (intL c).modify i (fun _ => .int .i64 v) = intL (c.set i v) := by
  unfold intL
  rw [List.map_set]
  apply List.ext_getElem?
  intro j
  rw [List.getElem?_modify, List.getElem?_set]
  by_cases e : i = j
  · subst e
    by_cases h : i < c.length <;> simp [h]
  · simp [e]
def cpy (l : List Int) (i : Nat) : List Int := l.take i ++ List.replicate (l.length - i) 0
theorem cpy_length (l : List Int) (i : Nat) (h : i ≤ l.length) : (cpy l i).length = l.length := by
  simp [cpy]; omega
theorem cpy_set (l : List Int) (i : Nat) (h : i < l.length) : (cpy l i).set i (l.getD i 0) = cpy l (i + 1) := by
  apply List.ext_getElem
  · simp [cpy]; omega
  · intro j h1 h2
    rw [List.getElem_set]
    simp only [cpy, List.getElem_append, List.length_take, List.getElem_take, List.getElem_replicate, getD_at l i h]
    split
    · rename_i e; subst e; rw [dif_pos (by omega)]
    · split <;> split <;> first | rfl | omega
theorem intL_replicate (n : Nat) : List.replicate n (T.int .i64 0) = intL (List.replicate n 0) := by simp [intL]
set_option maxHeartbeats 1000000 in
theorem c_laws_toInt64S (l : List Int) (hl : l.length ≤ 1099511627776) : AFn Try.prog 34 [.sl false 2 (intL l)] (.sl true 2 (intL l)) := by
  refine AFn.of' ttOk (by decide) Try.func34 Try.ntmps34 (by rw [Try.results34]) (by rfl) (by rfl) (by simp) (by decide) (by simp only [go_sem, Nat.reduceAdd, ↓reduceIte]; rfl) mixed (fun C hP hM hC => ?_)
  have hL : (l.length : Int) ≤ 1099511627776 := by omega
  (repeat (first | ((with_reducible refine rgn_cons rfl (fun K hK => ?_)); simp only [go_sem, seval, ↓reduceIte, decide_true, decide_false, Int.natCast_nonneg, Int.toNat_natCast, hL, intL_replicate]; (refine hK _ _ _ (by simp only [go_sem, Nat.reduceEqDiff, ↓reduceIte]; rfl) ?_); clear hK; clear K) | (with_reducible first | refine rgn_nil (by first | trivial | kernel_rfl) ?_ | refine AWP.seq ?_ | refine tX hC hP (by kernel_rfl) ?_ | refine aX hC hM hP (by kernel_rfl) ?_ | refine AWP.skip ?_ | refine AWP.label ?_ | refine AWP.exit ?_ | refine AWP.block ?_ | refine cTa ?_ | refine cFa ?_) | simp only [qS, Nat.reduceEqDiff, ↓reduceIte]))
  refine AWP.loop (fun i : Nat => [(4, ⟨0, .val (.int .i64 i)⟩), (3, ⟨1, .own (.sl true 2 (intL (cpy l i)))⟩), (0, ⟨0, .val (.sl false 2 (intL l))⟩)]) (fun i => i ≤ l.length) (fun i => l.length - i) 0 (Nat.zero_le _) (fun i => rfl) ?_ (fun i hi => ?_)
  · simp [Sub, lk, cpy]
  · (repeat (first | ((with_reducible refine rgn_cons rfl (fun K hK => ?_)); simp only [go_sem, seval, ↓reduceIte, decide_true, decide_false]; (refine hK _ _ _ (by simp only [go_sem, Nat.reduceEqDiff, ↓reduceIte]; rfl) ?_); clear hK; clear K) | (with_reducible first | refine rgn_nil (by first | trivial | kernel_rfl) ?_ | refine AWP.seq ?_ | refine tX hC hP (by kernel_rfl) ?_ | refine aX hC hM hP (by kernel_rfl) ?_ | refine AWP.skip ?_ | refine AWP.label ?_ | refine AWP.exit ?_ | refine AWP.block ?_ | refine cTa ?_ | refine cFa ?_) | simp only [qS, Nat.reduceEqDiff, ↓reduceIte]))
    refine AWP.cond (by decide) rfl (fun h => ?_) (fun h => ?_)
    · have hlt : i < l.length := by simpa using h
      have hlt' : i < (cpy l i).length := by rw [cpy_length l i hi]; exact hlt
      have hI : (i : Int) < (l.length : Int) := by omega
      (repeat (first | ((with_reducible refine rgn_cons rfl (fun K hK => ?_)); simp only [go_sem, seval, ↓reduceIte, decide_true, decide_false, intL_getD l i hlt, Int.toNat_natCast, Int.natCast_nonneg, hI, cpy_length l i hi, Nat.mul_one, intL_get _ i hlt', sizeL_take _ i (Nat.le_of_lt hlt'), intL_modify, cpy_set l i hlt, wid ((i : Int) + 1) (by omega) (by omega)]; (refine hK _ _ _ (by simp only [go_sem, Nat.reduceEqDiff, ↓reduceIte]; rfl) ?_); clear hK; clear K) | (with_reducible first | refine rgn_nil (by first | trivial | kernel_rfl) ?_ | refine AWP.seq ?_ | refine tX hC hP (by kernel_rfl) ?_ | refine aX hC hM hP (by kernel_rfl) ?_ | refine AWP.skip ?_ | refine AWP.label ?_ | refine AWP.exit ?_ | refine AWP.block ?_ | refine cTa ?_ | refine cFa ?_) | simp only [qS, Nat.reduceEqDiff, ↓reduceIte]))
      exact ⟨i + 1, hlt, by omega, by simp [Sub, lk]⟩
    · have hge : i = l.length := by have : ¬ ((i : Int) < l.length) := by simpa using h
                                    omega
      (repeat (first | ((with_reducible refine rgn_cons rfl (fun K hK => ?_)); simp only [go_sem, seval, ↓reduceIte, decide_true, decide_false]; (refine hK _ _ _ (by simp only [go_sem, Nat.reduceEqDiff, ↓reduceIte]; rfl) ?_); clear hK; clear K) | (with_reducible first | refine rgn_nil (by first | trivial | kernel_rfl) ?_ | refine AWP.seq ?_ | refine tX hC hP (by kernel_rfl) ?_ | refine aX hC hM hP (by kernel_rfl) ?_ | refine AWP.skip ?_ | refine AWP.label ?_ | refine AWP.exit ?_ | refine AWP.block ?_ | refine cTa ?_ | refine cFa ?_) | simp only [qS, Nat.reduceEqDiff, ↓reduceIte]))
      (refine AWP.ret ?_; refine retOk1 (by simp only [go_sem, seval, ↓reduceIte, decide_true, decide_false]; rfl) ?_)
      rw [hge]; simp [cpy]
set_option maxHeartbeats 1000000 in
theorem c_laws_eqInt64S (l : List Int) (hl : l.length ≤ 1099511627776) : AFn Try.prog 22 [.sl false 2 (intL l), .sl false 2 (intL l)] (.bool true) := by
  refine AFn.of' ttOk (by decide) Try.func22 Try.ntmps22 (by rw [Try.results22]) (by rfl) (by rfl) (by simp) (by decide) (by simp only [go_sem, Nat.reduceAdd, ↓reduceIte]; rfl) mixed (fun C hP hM hC => ?_)
  (repeat (first | ((with_reducible refine rgn_cons rfl (fun K hK => ?_)); simp only [go_sem, seval, ↓reduceIte, decide_true, decide_false]; (refine hK _ _ _ (by simp only [go_sem, Nat.reduceEqDiff, ↓reduceIte]; rfl) ?_); clear hK; clear K) | (with_reducible first | refine rgn_nil (by first | trivial | kernel_rfl) ?_ | refine AWP.seq ?_ | refine tX hC hP (by kernel_rfl) ?_ | refine aX hC hM hP (by kernel_rfl) ?_ | refine AWP.skip ?_ | refine AWP.label ?_ | refine AWP.exit ?_ | refine AWP.block ?_ | refine cTa ?_ | refine cFa ?_) | simp only [qS, Nat.reduceEqDiff, ↓reduceIte]))
  refine AWP.loop (fun i : Nat => [(5, ⟨0, .val (.int .i64 i)⟩), (0, ⟨0, .val (.sl false 2 (intL l))⟩), (1, ⟨0, .val (.sl false 2 (intL l))⟩)]) (fun i => i ≤ l.length) (fun i => l.length - i) 0 (Nat.zero_le _) (fun i => rfl) ?_ (fun i hi => ?_)
  · simp [Sub, lk]
  · (repeat (first | ((with_reducible refine rgn_cons rfl (fun K hK => ?_)); simp only [go_sem, seval, ↓reduceIte, decide_true, decide_false]; (refine hK _ _ _ (by simp only [go_sem, Nat.reduceEqDiff, ↓reduceIte]; rfl) ?_); clear hK; clear K) | (with_reducible first | refine rgn_nil (by first | trivial | kernel_rfl) ?_ | refine AWP.seq ?_ | refine tX hC hP (by kernel_rfl) ?_ | refine aX hC hM hP (by kernel_rfl) ?_ | refine AWP.skip ?_ | refine AWP.label ?_ | refine AWP.exit ?_ | refine AWP.block ?_ | refine cTa ?_ | refine cFa ?_) | simp only [qS, Nat.reduceEqDiff, ↓reduceIte]))
    refine AWP.cond (by decide) rfl (fun h => ?_) (fun h => ?_)
    · have hlt : i < l.length := by simpa using h
      have hI : (i : Int) < (l.length : Int) := by omega
      (repeat (first | ((with_reducible refine rgn_cons rfl (fun K hK => ?_)); simp only [go_sem, seval, ↓reduceIte, decide_true, decide_false, intL_getD l i hlt, Int.toNat_natCast, Int.natCast_nonneg, hI, wid ((i : Int) + 1) (by omega) (by omega)]; (refine hK _ _ _ (by simp only [go_sem, Nat.reduceEqDiff, ↓reduceIte]; rfl) ?_); clear hK; clear K) | (with_reducible first | refine rgn_nil (by first | trivial | kernel_rfl) ?_ | refine AWP.seq ?_ | refine tX hC hP (by kernel_rfl) ?_ | refine aX hC hM hP (by kernel_rfl) ?_ | refine AWP.skip ?_ | refine AWP.label ?_ | refine AWP.exit ?_ | refine AWP.block ?_ | refine cTa ?_ | refine cFa ?_) | simp only [qS, Nat.reduceEqDiff, ↓reduceIte]))
      exact ⟨i + 1, hlt, by omega, by simp [Sub, lk]⟩
    · (repeat (first | ((with_reducible refine rgn_cons rfl (fun K hK => ?_)); simp only [go_sem, seval, ↓reduceIte, decide_true, decide_false]; (refine hK _ _ _ (by simp only [go_sem, Nat.reduceEqDiff, ↓reduceIte]; rfl) ?_); clear hK; clear K) | (with_reducible first | refine rgn_nil (by first | trivial | kernel_rfl) ?_ | refine AWP.seq ?_ | refine tX hC hP (by kernel_rfl) ?_ | refine aX hC hM hP (by kernel_rfl) ?_ | refine AWP.skip ?_ | refine AWP.label ?_ | refine AWP.exit ?_ | refine AWP.block ?_ | refine cTa ?_ | refine cFa ?_) | simp only [qS, Nat.reduceEqDiff, ↓reduceIte]))
      (refine AWP.ret ?_; refine retOk1 (by simp only [go_sem, seval, ↓reduceIte, decide_true, decide_false]; rfl) ?_)
      rfl
set_option maxHeartbeats 1000000 in
theorem c_laws_eqSeries (m : Int) (l : List Int) (hl : l.length ≤ 1099511627776) : AFn Try.prog 8 [.agg [.int .i64 m, .sl false 2 (intL l)], .agg [.int .i64 m, .sl false 2 (intL l)]] (.bool true) := by
  refine AFn.of' ttOk (by decide) Try.func8 Try.ntmps8 (by rw [Try.results8]) (by rfl) (by rfl) (by simp) (by decide) (by simp only [go_sem, Nat.reduceAdd, ↓reduceIte]; rfl) mixed (fun C hP hM hC => ?_)
  (repeat (first | ((with_reducible refine rgn_cons rfl (fun K hK => ?_)); simp only [go_sem, seval, ↓reduceIte, decide_true, decide_false]; (first | refine hK _ _ _ (by simp only [go_sem, Nat.reduceEqDiff, ↓reduceIte]; rfl) ?_ | refine ⟨_, c_laws_eqInt64S l hl, hK _ _ _ (by simp only [go_sem, Nat.reduceEqDiff, ↓reduceIte]; rfl) ?_⟩); clear hK; clear K) | (with_reducible first | refine rgn_nil (by first | trivial | kernel_rfl) ?_ | refine AWP.seq ?_ | refine tX hC hP (by kernel_rfl) ?_ | refine aX hC hM hP (by kernel_rfl) ?_ | refine AWP.skip ?_ | refine AWP.label ?_ | refine AWP.exit ?_ | refine AWP.block ?_ | refine cTa ?_ | refine cFa ?_) | simp only [qS, Nat.reduceEqDiff, ↓reduceIte]))
  (refine AWP.ret ?_; refine retOk1 (by simp only [go_sem, seval, ↓reduceIte, decide_true, decide_false]; rfl) ?_)
  rfl
def szF (n : Nat) (left : Int) : Int := if left - n < 0 then -1 else left - n
set_option maxHeartbeats 1000000 in
theorem c_laws_szInt64S (l : List Int) (left : Int) (hl : l.length ≤ 9223372036854775807) (h1 : 0 ≤ left) (h2 : left ≤ 1048576) : AFn Try.prog 27 [.sl false 2 (intL l), .int .i64 left] (.int .i64 (szF l.length left)) := by
  refine AFn.of' ttOk (by decide) Try.func27 Try.ntmps27 (by rw [Try.results27]) (by rfl) (by rfl) (by simp) (by decide) (by simp only [go_sem, Nat.reduceAdd, ↓reduceIte]; rfl) mixed (fun C hP hM hC => ?_)
  have hw := wid (left - l.length) (by omega) (by omega)
  by_cases h : left - (l.length : Int) < 0
  · (repeat (first | ((with_reducible refine rgn_cons rfl (fun K hK => ?_)); simp only [go_sem, seval, ↓reduceIte, decide_true, decide_false, hw, h, decide_true]; (refine hK _ _ _ (by simp only [go_sem, Nat.reduceEqDiff, ↓reduceIte]; rfl) ?_); clear hK; clear K) | (with_reducible first | refine rgn_nil (by first | trivial | kernel_rfl) ?_ | refine AWP.seq ?_ | refine tX hC hP (by kernel_rfl) ?_ | refine aX hC hM hP (by kernel_rfl) ?_ | refine AWP.skip ?_ | refine AWP.label ?_ | refine AWP.exit ?_ | refine AWP.block ?_ | refine cTa ?_ | refine cFa ?_) | simp only [qS, Nat.reduceEqDiff, ↓reduceIte]))
    (refine AWP.ret ?_; refine retOk1 (by simp only [go_sem, seval, ↓reduceIte, decide_true, decide_false]; rfl) ?_)
    simp [szF, h]
  · (repeat (first | ((with_reducible refine rgn_cons rfl (fun K hK => ?_)); simp only [go_sem, seval, ↓reduceIte, decide_true, decide_false, hw, h, decide_false]; (refine hK _ _ _ (by simp only [go_sem, Nat.reduceEqDiff, ↓reduceIte]; rfl) ?_); clear hK; clear K) | (with_reducible first | refine rgn_nil (by first | trivial | kernel_rfl) ?_ | refine AWP.seq ?_ | refine tX hC hP (by kernel_rfl) ?_ | refine aX hC hM hP (by kernel_rfl) ?_ | refine AWP.skip ?_ | refine AWP.label ?_ | refine AWP.exit ?_ | refine AWP.block ?_ | refine cTa ?_ | refine cFa ?_) | simp only [qS, Nat.reduceEqDiff, ↓reduceIte]))
    (refine AWP.ret ?_; refine retOk1 (by simp only [go_sem, seval, ↓reduceIte, decide_true, decide_false]; rfl) ?_)
    simp [szF, h]
theorem szF_bound {n : Nat} {left : Int} (h : ¬ szF n left < 0) (h2 : left ≤ 1048576) : n ≤ 1048576 ∧ szF n left ≤ 1048576 ∧ 0 ≤ szF n left := by
  unfold szF at *
  split at h
  · omega
  · rename_i g; rw [if_neg g]; exact ⟨by omega, by omega, by omega⟩
end Go.Proofs.Ytahnnangdepkbab
