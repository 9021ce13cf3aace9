/-
  Sums of rows under a law.
-/
import Derived.Test.YtahnnangdepkbaaJg
namespace Go.Proofs.Ytahnnangdepkbaa
open Go.RowKit
set_option linter.unusedSimpArgs false
set_option linter.unusedVariables false
set_option linter.unusedSectionVars false
set_option maxRecDepth 20000
-- Sums of rows under a law.
def cubO (L : List (List (List Int))) : List T := L.map fun ll => .sl true 76 (rowsO ll)
theorem cubO_length (L : List (List (List Int))) : (cubO L).length = L.length := by simp [cubO]
theorem cubO_at (L : List (List (List Int))) (i : Nat) (h : i < L.length) : (cubO L)[i]? = some (.sl true 76 (rowsO (L.getD i []))) := by
  simp [cubO, List.getD_eq_getElem?_getD, h]
theorem cubO_sizeT (L : List (List (List Int))) (i : Nat) (h : i ≤ L.length) : T.sizeL ((cubO L).take i) = i := by
  rw [sizeL_of_all (n := 1) (fun t ht => by
    have ht := List.mem_of_mem_take ht
    simp only [cubO, List.mem_map] at ht
    obtain ⟨x, _, rfl⟩ := ht
    rfl)]
  simp [cubO_length]; omega
theorem cubO_snoc (L : List (List (List Int))) (ll : List (List Int)) : cubO L ++ [.sl true 76 (rowsO ll)] = cubO (L ++ [ll]) := by simp [cubO]
theorem cubO_noF : ∀ (L : List (List (List Int))), T.noFL (cubO L) = true
  | [] => rfl
  | x :: L => by
    show (T.noF (.sl true 76 (rowsO x)) && T.noFL (cubO L)) = true
    rw [cubO_noF L, Bool.and_true]
    simp only [T.noF, rowsO_noF]
    rfl
def powT (m : Int) (k : Nat) (r : List Int) (n : Nat) (A : List (List Int)) (i : Nat) : List (List (List Int)) := (List.range i).map (pwW m k r n A)
theorem powT_length (m : Int) (k : Nat) (r : List Int) (n : Nat) (A : List (List Int)) (i : Nat) : (powT m k r n A i).length = i := by simp [powT]
theorem powT_getD {m : Int} {k : Nat} {r : List Int} {n : Nat} {A : List (List Int)} {i j : Nat} (h : j < i) : (powT m k r n A i).getD j [] = pwW m k r n A j := by simp [powT, List.getD_eq_getElem?_getD, h]
theorem powT_succ (m : Int) (k : Nat) (r : List Int) (n : Nat) (A : List (List Int)) (i : Nat) : powT m k r n A i ++ [pwW m k r n A i] = powT m k r n A (i + 1) := by simp [powT, List.range_succ]
theorem one_nmW (i : Nat) : IntKind.i64.wrap (1 - if 1 < (i : Int) then 1 else (i : Int)) = if i = 0 then 1 else 0 := by
  by_cases h : i = 0
  · subst h; rfl
  · rw [if_neg h]
    by_cases h2 : 1 < (i : Int)
    · rw [if_pos h2]; rfl
    · rw [if_neg h2, show (i : Int) = 1 by omega]; rfl
set_option maxHeartbeats 4000000 in
theorem c_impl_rooted_sum_1 (m : Int) (r : List Int) (ll A : List (List Int)) (n : Nat) (hm : 1 < m) (hm2 : m ≤ 10000) (hr : 0 < r.length) (hr2 : r.length ≤ 1000) (hrb : ∀ x ∈ r, -1 ≤ x ∧ x ≤ 10000) (hl : Pl m n ll) (hA : okR m r.length n A) (hn : n ≤ 1000) (hn1 : 1 ≤ n) : AFn Try.prog 76 [.sl false 76 (rowsF A), .fptr (.agg [.int .i64 m, .sl false 2 (intL r)]), .fptr (.agg [.int .i64 m, .sl false 27 (rowsF ll)])] (.sl true 80 (cubO (powT m r.length r n A n))) := by
  refine AFn.of' ttOk (by decide) Try.func76 Try.ntmps76 (by rw [Try.results76]) (by rfl) (by rfl) (by simp) (by decide) (by simp only [go_sem, Nat.reduceAdd, ↓reduceIte]; rfl) mixed (fun C hP hM hC => ?_)
  have hD := c_impl_Plane_degree m ll (by have := hl.len; omega)
  rw [hl.len, show (n : Int) - 1 = ((n - 1 : Nat) : Int) by omega] at hD
  (repeat (first | ((with_reducible refine rgn_cons rfl (fun K hK => ?_)); simp only [go_sem, seval, ↓reduceIte, decide_true, decide_false, rowsF_length, hA.1]; (refine hK _ _ _ (by simp only [go_sem, Nat.reduceEqDiff, ↓reduceIte]; rfl) ?_); clear hK; clear K) | (with_reducible first | refine rgn_nil (by first | trivial | kernel_rfl) ?_ | refine AWP.seq ?_ | refine tX hC hP (by kernel_rfl) ?_ | refine aX hC hM hP (by kernel_rfl) ?_ | refine AWP.skip ?_ | refine AWP.label ?_ | refine AWP.exit ?_ | refine AWP.block ?_ | refine cTa ?_ | refine cFa ?_) | simp only [qS, Nat.reduceEqDiff, ↓reduceIte]))
  refine AWP.loop (fun w : Nat × Nat => [(11, ⟨0, .val (.int .i64 w.1)⟩), (10, ⟨0, .val (.int .i64 n)⟩), (5, ⟨w.2, .own (.sl true 76 (rowsO (tabL w.1 (fun i => nmW r.length (if i = 0 then 1 else 0)))))⟩), (0, ⟨0, .val (.sl false 76 (rowsF A))⟩), (1, ⟨0, .val (.fptr (.agg [.int .i64 m, .sl false 2 (intL r)]))⟩), (2, ⟨0, .val (.fptr (.agg [.int .i64 m, .sl false 27 (rowsF ll)]))⟩)]) (fun w => w.1 ≤ n) (fun w => n - w.1) (0, 1) (Nat.zero_le _) (fun i => rfl) ?_ (fun w hw => ?_)
  · simp [Sub, lk, tabL, rowsO]
  · obtain ⟨i, v⟩ := w
    simp only at hw ⊢
    by_cases hin : i < n
    · have hN := c_impl_rooted_number m (if i = 0 then 1 else 0) r hr hr2
      (repeat (first | ((with_reducible refine rgn_cons rfl (fun K hK => ?_)); simp only [go_sem, seval, ↓reduceIte, decide_true, decide_false, show (i : Int) < (n : Int) by omega, decide_true, one_nmW, rowsO_length, tabL_length, rowsO_snoc, tabL_snoc (f := fun i => nmW r.length (if i = 0 then 1 else 0)), show i + 1 ≤ 1099511627776 by omega, show (i + 1) * 24 ≤ 140737488355328 by omega, wid ((i : Int) + 1) (by omega) (by omega)]; (first | refine hK _ _ _ (by simp only [go_sem, Nat.reduceEqDiff, ↓reduceIte]; rfl) ?_ | refine ⟨_, hN, hK _ _ _ (by simp only [go_sem, Nat.reduceEqDiff, ↓reduceIte]; rfl) ?_⟩); clear hK; clear K) | (with_reducible first | refine rgn_nil (by first | trivial | kernel_rfl) ?_ | refine AWP.seq ?_ | refine tX hC hP (by kernel_rfl) ?_ | refine aX hC hM hP (by kernel_rfl) ?_ | refine AWP.skip ?_ | refine AWP.label ?_ | refine AWP.exit ?_ | refine AWP.block ?_ | refine cTa ?_ | refine cFa ?_) | simp only [qS, Nat.reduceEqDiff, ↓reduceIte]))
      exact ⟨(i + 1, v + 1), by simp only; omega, by simp only; omega, by simp [Sub, lk]⟩
    · have e : i = n := by omega
      subst e
      have e1 : T.sl true 76 (rowsO (tabL i (fun j => nmW r.length (if j = 0 then 1 else 0)))) = T.sl true 76 (rowsO (pwW m r.length r i A 0)) := rfl
      rw [e1]
      (repeat (first | ((with_reducible refine rgn_cons rfl (fun K hK => ?_)); simp only [go_sem, seval, ↓reduceIte, decide_true, decide_false, show ¬ (i : Int) < (i : Int) by omega, decide_false]; (first | refine hK _ _ _ (by simp only [go_sem, Nat.reduceEqDiff, ↓reduceIte]; rfl) ?_ | refine ⟨_, hD, hK _ _ _ (by simp only [go_sem, Nat.reduceEqDiff, ↓reduceIte]; rfl) ?_⟩); clear hK; clear K) | (with_reducible first | refine rgn_nil (by first | trivial | kernel_rfl) ?_ | refine AWP.seq ?_ | refine tX hC hP (by kernel_rfl) ?_ | refine aX hC hM hP (by kernel_rfl) ?_ | refine AWP.skip ?_ | refine AWP.label ?_ | refine AWP.exit ?_ | refine AWP.block ?_ | refine cTa ?_ | refine cFa ?_) | simp only [qS, Nat.reduceEqDiff, ↓reduceIte]))
      refine AWP.loop (fun w : Nat × Nat => [(27, ⟨0, .val (.int .i64 w.1)⟩), (26, ⟨1, .val (.int .i64 (i - 1 : Nat))⟩), (7, ⟨w.2, .own (.sl true 80 (cubO (powT m r.length r i A (w.1 + 1))))⟩), (0, ⟨0, .val (.sl false 76 (rowsF A))⟩), (1, ⟨0, .val (.fptr (.agg [.int .i64 m, .sl false 2 (intL r)]))⟩), (2, ⟨0, .val (.fptr (.agg [.int .i64 m, .sl false 27 (rowsF ll)]))⟩)]) (fun w => w.1 ≤ i - 1) (fun w => i - 1 - w.1) (0, 1) (Nat.zero_le _) (fun i => rfl) ?_ (fun w hw => ?_)
      · simp [Sub, lk, powT, cubO]
      · obtain ⟨x, v2⟩ := w
        simp only at hw ⊢
        by_cases hx : x < i - 1
        · have hPr := c_impl_rooted_product m r (pwW m r.length r i A x) A i hm hm2 hr hr2 hrb (pwW_ok hm _ _ _ _ _) hA hn
          have e2 : prW m r.length r i (pwW m r.length r i A x) A = pwW m r.length r i A (x + 1) := rfl
          rw [e2] at hPr
          have hlen : x < (powT m r.length r i A (x + 1)).length := by rw [powT_length]; omega
          (repeat (first | ((with_reducible refine rgn_cons rfl (fun K hK => ?_)); simp only [go_sem, seval, ↓reduceIte, decide_true, decide_false, show (x : Int) < ((i - 1 : Nat) : Int) by omega, decide_true, cubO_length, powT_length, show IntKind.i64.wrap (((x + 1 : Nat) : Int) - 1) = (x : Int) by rw [wid _ (by omega) (by omega)]; omega, Int.toNat_natCast, Int.natCast_nonneg, show (x : Int) < ((x + 1 : Nat) : Int) by omega, cubO_at _ _ hlen, cubO_sizeT _ _ (Nat.le_of_lt hlen), Nat.mul_one, powT_getD (show x < x + 1 by omega), cubO_snoc, powT_succ, show x + 1 + 1 ≤ 1099511627776 by omega, show (x + 1 + 1) * 24 ≤ 140737488355328 by omega, wid ((x : Int) + 1) (by omega) (by omega)]; (first | refine hK _ _ _ (by simp only [go_sem, Nat.reduceEqDiff, ↓reduceIte]; rfl) ?_ | refine ⟨_, hPr, hK _ _ _ (by simp only [go_sem, Nat.reduceEqDiff, ↓reduceIte]; rfl) ?_⟩); clear hK; clear K) | (with_reducible first | refine rgn_nil (by first | trivial | kernel_rfl) ?_ | refine AWP.seq ?_ | refine tX hC hP (by kernel_rfl) ?_ | refine aX hC hM hP (by kernel_rfl) ?_ | refine AWP.skip ?_ | refine AWP.label ?_ | refine AWP.exit ?_ | refine AWP.block ?_ | refine cTa ?_ | refine cFa ?_) | simp only [qS, Nat.reduceEqDiff, ↓reduceIte]))
          exact ⟨(x + 1, v2 + 1), by simp only; omega, by simp only; omega, by simp [Sub, lk]⟩
        · have e : x + 1 = i := by omega
          (repeat (first | ((with_reducible refine rgn_cons rfl (fun K hK => ?_)); simp only [go_sem, seval, ↓reduceIte, decide_true, decide_false, show ¬ (x : Int) < ((i - 1 : Nat) : Int) by omega, decide_false, cubO_noF, e]; (refine hK _ _ _ (by simp only [go_sem, Nat.reduceEqDiff, ↓reduceIte]; rfl) ?_); clear hK; clear K) | (with_reducible first | refine rgn_nil (by first | trivial | kernel_rfl) ?_ | refine AWP.seq ?_ | refine tX hC hP (by kernel_rfl) ?_ | refine aX hC hM hP (by kernel_rfl) ?_ | refine AWP.skip ?_ | refine AWP.label ?_ | refine AWP.exit ?_ | refine AWP.block ?_ | refine cTa ?_ | refine cFa ?_) | simp only [qS, Nat.reduceEqDiff, ↓reduceIte]))
          (refine AWP.ret ?_; refine retOk1 (by simp only [go_sem, seval, ↓reduceIte, decide_true, decide_false, cubO_noF]; rfl) ?_)
          rfl
/-- The rows of a sum, on the way. -/
def suT (m : Int) (k : Nat) (r : List Int) (n : Nat) (c : Nat → Nat → Int) (P Q : Nat → List (List Int)) (i j y : Nat) : List (List Int) := tabL n (fun t => if t < y then suJ m k r n (c i) (P i) Q (suI m k r n c P Q i) (j + 1) t else suJ m k r n (c i) (P i) Q (suI m k r n c P Q i) j t)
theorem suT_length (m : Int) (k : Nat) (r : List Int) (n : Nat) (c : Nat → Nat → Int) (P Q : Nat → List (List Int)) (i j y : Nat) : (suT m k r n c P Q i j y).length = n := tabL_length _ _
theorem suT_start (m : Int) (k : Nat) (r : List Int) (n : Nat) (c : Nat → Nat → Int) (P Q : Nat → List (List Int)) : tabL n (fun _ => nmW k 0) = suT m k r n c P Q 0 0 0 := tabL_congr fun t _ => by rw [if_neg (by omega)]; rfl
theorem suT_skip {m : Int} {k : Nat} {r : List Int} {n : Nat} {c : Nat → Nat → Int} {P Q : Nat → List (List Int)} {i j : Nat} (h : c i j = 0) : suT m k r n c P Q i j 0 = suT m k r n c P Q i (j + 1) 0 := tabL_congr fun t _ => by
  rw [if_neg (by omega), if_neg (by omega)]
  show _ = if c i j = 0 then _ else _
  rw [if_pos h]
theorem suT_end {m : Int} {k : Nat} {r : List Int} {n : Nat} {c : Nat → Nat → Int} {P Q : Nat → List (List Int)} {i j : Nat} : suT m k r n c P Q i j n = suT m k r n c P Q i (j + 1) 0 := tabL_congr fun t ht => by
  rw [if_pos ht, if_neg (by omega)]
theorem suT_row {m : Int} {k : Nat} {r : List Int} {n : Nat} {c : Nat → Nat → Int} {P Q : Nat → List (List Int)} {i : Nat} : suT m k r n c P Q i (n - i) 0 = suT m k r n c P Q (i + 1) 0 0 := tabL_congr fun t ht => by
  rw [if_neg (by omega), if_neg (by omega)]; rfl
theorem suT_last {m : Int} {k : Nat} {r : List Int} {n : Nat} {c : Nat → Nat → Int} {A B : List (List Int)} : suT m k r n c (pwW m k r n A) (pwW m k r n B) n 0 0 = suW m k r n c A B := tabL_congr fun t ht => by
  rw [if_neg (by omega)]; rfl
theorem suT_at {m : Int} {k : Nat} {r : List Int} {n : Nat} {c : Nat → Nat → Int} {P Q : Nat → List (List Int)} {i j y : Nat} (h : y < n) : (suT m k r n c P Q i j y).getD y [] = suJ m k r n (c i) (P i) Q (suI m k r n c P Q i) j y := by
  rw [suT, tabL_getD h, if_neg (by omega)]
theorem suT_set {m : Int} {k : Nat} {r : List Int} {n : Nat} {c : Nat → Nat → Int} {P Q : Nat → List (List Int)} {i j y : Nat} (h : c i j ≠ 0) : (suT m k r n c P Q i j y).set y (plW m k (suJ m k r n (c i) (P i) Q (suI m k r n c P Q i) j y) ((prW m k r n (P i) (Q j)).getD y []) (c i j)) = suT m k r n c P Q i j (y + 1) := tabL_set fun t _ => by
  by_cases e : t = y
  · subst e
    rw [if_pos rfl, if_pos (by omega)]
    show _ = if c i j = 0 then _ else _
    rw [if_neg h]
  · rw [if_neg e]
    by_cases h2 : t < y
    · rw [if_pos h2, if_pos (by omega)]
    · rw [if_neg h2, if_neg (by omega)]
set_option maxHeartbeats 4000000 in
theorem c_impl_rooted_sum (m : Int) (r : List Int) (ll A B : List (List Int)) (n : Nat) (hm : 1 < m) (hm2 : m ≤ 10000) (hr : 0 < r.length) (hr2 : r.length ≤ 1000) (hrb : ∀ x ∈ r, -1 ≤ x ∧ x ≤ 10000) (hl : Pl m n ll) (hA : okR m r.length n A) (hB : okR m r.length n B) (hn : n ≤ 1000) (hn1 : 1 ≤ n) : AFn Try.prog 62 [.agg [.int .i64 m, .sl false 2 (intL r)], .agg [.int .i64 m, .sl false 27 (rowsF ll)], .sl false 76 (rowsF A), .sl false 76 (rowsF B)] (.sl true 76 (rowsO (suW m r.length r n (pc ll) A B))) := by
  refine AFn.of' ttOk (by decide) Try.func62 Try.ntmps62 (by rw [Try.results62]) (by rfl) (by rfl) (by simp) (by decide) (by simp only [go_sem, Nat.reduceAdd, ↓reduceIte]; rfl) mixed (fun C hP hM hC => ?_)
  have hN := c_impl_rooted_number m 0 r hr hr2
  have hPa := c_impl_rooted_sum_1 m r ll A n hm hm2 hr hr2 hrb hl hA hn hn1
  have hPb := c_impl_rooted_sum_1 m r ll B n hm hm2 hr hr2 hrb hl hB hn hn1
  (repeat (first | ((with_reducible refine rgn_cons rfl (fun K hK => ?_)); simp only [go_sem, seval, ↓reduceIte, decide_true, decide_false, rowsF_length, hA.1]; (first | refine hK _ _ _ (by simp only [go_sem, Nat.reduceEqDiff, ↓reduceIte]; rfl) ?_ | refine ⟨_, hPa, hK _ _ _ (by simp only [go_sem, Nat.reduceEqDiff, ↓reduceIte]; rfl) ?_⟩ | refine ⟨_, hPb, hK _ _ _ (by simp only [go_sem, Nat.reduceEqDiff, ↓reduceIte]; rfl) ?_⟩); clear hK; clear K) | (with_reducible first | refine rgn_nil (by first | trivial | kernel_rfl) ?_ | refine AWP.seq ?_ | refine tX hC hP (by kernel_rfl) ?_ | refine aX hC hM hP (by kernel_rfl) ?_ | refine AWP.skip ?_ | refine AWP.label ?_ | refine AWP.exit ?_ | refine AWP.block ?_ | refine cTa ?_ | refine cFa ?_) | simp only [qS, Nat.reduceEqDiff, ↓reduceIte]))
  refine AWP.loop (fun w : Nat × Nat => [(29, ⟨0, .val (.int .i64 w.1)⟩), (28, ⟨0, .val (.int .i64 n)⟩), (12, ⟨w.2, .own (.sl true 76 (rowsO (tabL w.1 (fun _ => nmW r.length 0))))⟩), (5, ⟨1, .own (.box 31 (.agg [.int .i64 m, .sl false 27 (rowsF ll)]))⟩), (10, ⟨1, .own (.sl true 80 (cubO (powT m r.length r n A n)))⟩), (11, ⟨1, .own (.sl true 80 (cubO (powT m r.length r n B n)))⟩), (4, ⟨1, .own (.box 79 (.agg [.int .i64 m, .sl false 2 (intL r)]))⟩)]) (fun w => w.1 ≤ n) (fun w => n - w.1) (0, 1) (Nat.zero_le _) (fun i => rfl) ?_ (fun w hw => ?_)
  · simp [Sub, lk, tabL, rowsO]
  · obtain ⟨i0, v⟩ := w
    simp only at hw ⊢
    by_cases hin : i0 < n
    · (repeat (first | ((with_reducible refine rgn_cons rfl (fun K hK => ?_)); simp only [go_sem, seval, ↓reduceIte, decide_true, decide_false, show (i0 : Int) < (n : Int) by omega, decide_true, rowsO_length, tabL_length, rowsO_snoc, tabL_snoc, show i0 + 1 ≤ 1099511627776 by omega, show (i0 + 1) * 24 ≤ 140737488355328 by omega, wid ((i0 : Int) + 1) (by omega) (by omega)]; (first | refine hK _ _ _ (by simp only [go_sem, Nat.reduceEqDiff, ↓reduceIte]; rfl) ?_ | refine ⟨_, hN, hK _ _ _ (by simp only [go_sem, Nat.reduceEqDiff, ↓reduceIte]; rfl) ?_⟩); clear hK; clear K) | (with_reducible first | refine rgn_nil (by first | trivial | kernel_rfl) ?_ | refine AWP.seq ?_ | refine tX hC hP (by kernel_rfl) ?_ | refine aX hC hM hP (by kernel_rfl) ?_ | refine AWP.skip ?_ | refine AWP.label ?_ | refine AWP.exit ?_ | refine AWP.block ?_ | refine cTa ?_ | refine cFa ?_) | simp only [qS, Nat.reduceEqDiff, ↓reduceIte]))
      exact ⟨(i0 + 1, v + 1), by simp only; omega, by simp only; omega, by simp [Sub, lk]⟩
    · have e : i0 = n := by omega
      rw [e, suT_start m r.length r n (pc ll) (pwW m r.length r n A) (pwW m r.length r n B)]
      clear hw hin e
      (repeat (first | ((with_reducible refine rgn_cons rfl (fun K hK => ?_)); simp only [go_sem, seval, ↓reduceIte, decide_true, decide_false, show ¬ (n : Int) < (n : Int) by omega, decide_false, rowsF_length, hl.len]; (refine hK _ _ _ (by simp only [go_sem, Nat.reduceEqDiff, ↓reduceIte]; rfl) ?_); clear hK; clear K) | (with_reducible first | refine rgn_nil (by first | trivial | kernel_rfl) ?_ | refine AWP.seq ?_ | refine tX hC hP (by kernel_rfl) ?_ | refine aX hC hM hP (by kernel_rfl) ?_ | refine AWP.skip ?_ | refine AWP.label ?_ | refine AWP.exit ?_ | refine AWP.block ?_ | refine cTa ?_ | refine cFa ?_) | simp only [qS, Nat.reduceEqDiff, ↓reduceIte]))
      refine AWP.loop (fun w : Nat × Nat => [(40, ⟨0, .val (.int .i64 w.1)⟩), (39, ⟨0, .val (.int .i64 n)⟩), (38, ⟨0, .val (.sl false 27 (rowsF ll))⟩), (12, ⟨w.2, .own (.sl true 76 (rowsO (suT m r.length r n (pc ll) (pwW m r.length r n A) (pwW m r.length r n B) w.1 0 0)))⟩), (10, ⟨1, .own (.sl true 80 (cubO (powT m r.length r n A n)))⟩), (11, ⟨1, .own (.sl true 80 (cubO (powT m r.length r n B n)))⟩), (4, ⟨1, .own (.box 79 (.agg [.int .i64 m, .sl false 2 (intL r)]))⟩)]) (fun w => w.1 ≤ n) (fun w => n - w.1) (0, v) (Nat.zero_le _) (fun i => rfl) ?_ (fun w hw => ?_)
      · simp [Sub, lk]
      · obtain ⟨i, v2⟩ := w
        simp only at hw ⊢
        by_cases hin : i < n
        · have hrow := hl.row i hin
          (repeat (first | ((with_reducible refine rgn_cons rfl (fun K hK => ?_)); simp only [go_sem, seval, ↓reduceIte, decide_true, decide_false, show (i : Int) < (n : Int) by omega, decide_true, rowsF_getD ll i (by rw [hl.len]; exact hin), rowsF_length, hl.len, Int.toNat_natCast, Int.natCast_nonneg, hrow]; (refine hK _ _ _ (by simp only [go_sem, Nat.reduceEqDiff, ↓reduceIte]; rfl) ?_); clear hK; clear K) | (with_reducible first | refine rgn_nil (by first | trivial | kernel_rfl) ?_ | refine AWP.seq ?_ | refine tX hC hP (by kernel_rfl) ?_ | refine aX hC hM hP (by kernel_rfl) ?_ | refine AWP.skip ?_ | refine AWP.label ?_ | refine AWP.exit ?_ | refine AWP.block ?_ | refine cTa ?_ | refine cFa ?_) | simp only [qS, Nat.reduceEqDiff, ↓reduceIte]))
          refine AWP.loop (fun w : Nat × Nat => [(47, ⟨0, .val (.int .i64 w.1)⟩), (46, ⟨0, .val (.int .i64 (n - i : Nat))⟩), (45, ⟨0, .val (.sl false 2 (intL (ll.getD i [])))⟩), (13, ⟨0, .val (.int .i64 i)⟩), (40, ⟨0, .val (.int .i64 i)⟩), (39, ⟨0, .val (.int .i64 n)⟩), (38, ⟨0, .val (.sl false 27 (rowsF ll))⟩), (12, ⟨w.2, .own (.sl true 76 (rowsO (suT m r.length r n (pc ll) (pwW m r.length r n A) (pwW m r.length r n B) i w.1 0)))⟩), (10, ⟨1, .own (.sl true 80 (cubO (powT m r.length r n A n)))⟩), (11, ⟨1, .own (.sl true 80 (cubO (powT m r.length r n B n)))⟩), (4, ⟨1, .own (.box 79 (.agg [.int .i64 m, .sl false 2 (intL r)]))⟩)]) (fun w => w.1 ≤ n - i) (fun w => n - i - w.1) (0, v2) (Nat.zero_le _) (fun i => rfl) ?_ (fun w hw => ?_)
          · simp [Sub, lk]
          · obtain ⟨j, v3⟩ := w
            simp only at hw ⊢
            by_cases hjn : j < n - i
            · have hj1 : j < (ll.getD i []).length := by omega
              have hx := hl.num i j
              by_cases h00 : pc ll i j = 0
              · (repeat (first | ((with_reducible refine rgn_cons rfl (fun K hK => ?_)); simp only [go_sem, seval, ↓reduceIte, decide_true, decide_false, show (j : Int) < ((n - i : Nat) : Int) by omega, decide_true, Int.toNat_natCast, Int.natCast_nonneg, intL_getD _ j hj1, hrow, show (ll.getD i []).getD j 0 = pc ll i j from rfl, h00, show ((0 : Int) == 0) = true from rfl, wid ((j : Int) + 1) (by omega) (by omega)]; (refine hK _ _ _ (by simp only [go_sem, Nat.reduceEqDiff, ↓reduceIte]; rfl) ?_); clear hK; clear K) | (with_reducible first | refine rgn_nil (by first | trivial | kernel_rfl) ?_ | refine AWP.seq ?_ | refine tX hC hP (by kernel_rfl) ?_ | refine aX hC hM hP (by kernel_rfl) ?_ | refine AWP.skip ?_ | refine AWP.label ?_ | refine AWP.exit ?_ | refine AWP.block ?_ | refine cTa ?_ | refine cFa ?_) | simp only [qS, Nat.reduceEqDiff, ↓reduceIte]))
                exact ⟨(j + 1, v3), by simp only; omega, by simp only; omega, by simp only [← suT_skip (m := m) (k := r.length) (r := r) (n := n) (P := pwW m r.length r n A) (Q := pwW m r.length r n B) h00]; simp [Sub, lk]⟩
              · have hPr := c_impl_rooted_product m r (pwW m r.length r n A i) (pwW m r.length r n B j) n hm hm2 hr hr2 hrb (pwW_ok hm _ _ _ _ _) (pwW_ok hm _ _ _ _ _) hn
                have hPo := prW_ok (show 0 < m by omega) r.length r n (pwW m r.length r n A i) (pwW m r.length r n B j)
                have hi1 : i < (powT m r.length r n A n).length := by rw [powT_length]; omega
                have hj2 : j < (powT m r.length r n B n).length := by rw [powT_length]; omega
                have hsu := fun y => suJ_ok (show 0 < m by omega) (k := r.length) r n (pc ll i) (pwW m r.length r n A i) (pwW m r.length r n B) (suI_ok (show 0 < m by omega) r.length r n (pc ll) (pwW m r.length r n A) (pwW m r.length r n B) i) j y
                obtain ⟨cc, hcc⟩ : ∃ cc, pc ll i j = cc := ⟨_, rfl⟩
                rw [hcc] at hx h00
                (repeat (first | ((with_reducible refine rgn_cons rfl (fun K hK => ?_)); simp only [go_sem, seval, ↓reduceIte, decide_true, decide_false, show (j : Int) < ((n - i : Nat) : Int) by omega, decide_true, Int.toNat_natCast, Int.natCast_nonneg, intL_getD _ j hj1, hrow, show (ll.getD i []).getD j 0 = cc from hcc, show (cc == 0) = false by rw [beq_eq_false_iff_ne]; exact h00, cubO_length, powT_length, show (i : Int) < (n : Int) by omega, show (j : Int) < (n : Int) by omega, cubO_at _ _ hi1, cubO_at _ _ hj2, cubO_sizeT _ _ (Nat.le_of_lt hi1), cubO_sizeT _ _ (Nat.le_of_lt hj2), Nat.mul_one, powT_getD (show i < n by omega), powT_getD (show j < n by omega), rowsO_length, hPo.1]; (first | refine hK _ _ _ (by simp only [go_sem, Nat.reduceEqDiff, ↓reduceIte]; rfl) ?_ | refine ⟨_, hPr, hK _ _ _ (by simp only [go_sem, Nat.reduceEqDiff, ↓reduceIte]; rfl) ?_⟩); clear hK; clear K) | (with_reducible first | refine rgn_nil (by first | trivial | kernel_rfl) ?_ | refine AWP.seq ?_ | refine tX hC hP (by kernel_rfl) ?_ | refine aX hC hM hP (by kernel_rfl) ?_ | refine AWP.skip ?_ | refine AWP.label ?_ | refine AWP.exit ?_ | refine AWP.block ?_ | refine cTa ?_ | refine cFa ?_) | simp only [qS, Nat.reduceEqDiff, ↓reduceIte]))
                refine AWP.loop (fun w : Nat × Nat => [(65, ⟨0, .val (.int .i64 w.1)⟩), (64, ⟨0, .val (.int .i64 n)⟩), (63, ⟨1, .own (.sl true 76 (rowsO (prW m r.length r n (pwW m r.length r n A i) (pwW m r.length r n B j))))⟩), (16, ⟨0, .val (.int .i64 cc)⟩), (47, ⟨0, .val (.int .i64 j)⟩), (46, ⟨0, .val (.int .i64 (n - i : Nat))⟩), (45, ⟨0, .val (.sl false 2 (intL (ll.getD i [])))⟩), (13, ⟨0, .val (.int .i64 i)⟩), (40, ⟨0, .val (.int .i64 i)⟩), (39, ⟨0, .val (.int .i64 n)⟩), (38, ⟨0, .val (.sl false 27 (rowsF ll))⟩), (12, ⟨w.2, .own (.sl true 76 (rowsO (suT m r.length r n (pc ll) (pwW m r.length r n A) (pwW m r.length r n B) i j w.1)))⟩), (10, ⟨1, .own (.sl true 80 (cubO (powT m r.length r n A n)))⟩), (11, ⟨1, .own (.sl true 80 (cubO (powT m r.length r n B n)))⟩), (4, ⟨1, .own (.box 79 (.agg [.int .i64 m, .sl false 2 (intL r)]))⟩)]) (fun w => w.1 ≤ n) (fun w => n - w.1) (0, v3) (Nat.zero_le _) (fun i => rfl) ?_ (fun w hw => ?_)
                · simp [Sub, lk]
                · obtain ⟨y, v4⟩ := w
                  simp only at hw ⊢
                  by_cases hy : y < n
                  · have hpy := hPo.at hy
                    have hP1 := c_impl_rooted_plus m cc r (suJ m r.length r n (pc ll i) (pwW m r.length r n A i) (pwW m r.length r n B) (suI m r.length r n (pc ll) (pwW m r.length r n A) (pwW m r.length r n B) i) j y) ((prW m r.length r n (pwW m r.length r n A i) (pwW m r.length r n B j)).getD y []) r.length (by omega) hm2 (hsu y) hpy.1 (hpy.low hm2) hx.1 (by omega) hr2
                    have hlen : y < (suT m r.length r n (pc ll) (pwW m r.length r n A) (pwW m r.length r n B) i j y).length := by rw [suT_length]; omega
                    have hlen2 : y < (prW m r.length r n (pwW m r.length r n A i) (pwW m r.length r n B j)).length := by rw [hPo.1]; omega
                    have hU := rowsO_putW (suT m r.length r n (pc ll) (pwW m r.length r n A) (pwW m r.length r n B) i j y) y (plW m r.length (suJ m r.length r n (pc ll i) (pwW m r.length r n A i) (pwW m r.length r n B) (suI m r.length r n (pc ll) (pwW m r.length r n A) (pwW m r.length r n B) i) j y) ((prW m r.length r n (pwW m r.length r n A i) (pwW m r.length r n B j)).getD y []) cc) (fun _ => (.sl true 2 (intL (plW m r.length (suJ m r.length r n (pc ll i) (pwW m r.length r n A i) (pwW m r.length r n B) (suI m r.length r n (pc ll) (pwW m r.length r n A) (pwW m r.length r n B) i) j y) ((prW m r.length r n (pwW m r.length r n A i) (pwW m r.length r n B j)).getD y []) cc)))) rfl hlen
                    have hset := suT_set (m := m) (k := r.length) (r := r) (n := n) (c := pc ll) (P := pwW m r.length r n A) (Q := pwW m r.length r n B) (i := i) (j := j) (y := y) (by rw [hcc]; exact h00)
                    rw [hcc] at hset
                    rw [hset] at hU
                    (repeat (first | ((with_reducible refine rgn_cons rfl (fun K hK => ?_)); simp only [go_sem, seval, ↓reduceIte, decide_true, decide_false, show (y : Int) < (n : Int) by omega, decide_true, rowsO_length, hPo.1, suT_length, Int.toNat_natCast, Int.natCast_nonneg, rowsO_at _ _ hlen, rowsO_at _ _ hlen2, rowsO_sizeT _ _ (Nat.le_of_lt hlen), rowsO_sizeT _ _ (Nat.le_of_lt hlen2), Nat.mul_one, suT_at (m := m) (k := r.length) (r := r) (c := pc ll) (P := pwW m r.length r n A) (Q := pwW m r.length r n B) (i := i) (j := j) (show y < n by omega), wid ((y : Int) + 1) (by omega) (by omega)]; (first | refine hK _ _ _ (by simp only [go_sem, Nat.reduceEqDiff, ↓reduceIte]; rfl) ?_ | refine ⟨_, hP1, hK _ _ _ (by simp only [go_sem, Nat.reduceEqDiff, ↓reduceIte]; rfl) ?_⟩); clear hK; clear K) | (with_reducible first | refine rgn_nil (by first | trivial | kernel_rfl) ?_ | refine AWP.seq ?_ | refine tX hC hP (by kernel_rfl) ?_ | refine aX hC hM hP (by kernel_rfl) ?_ | refine AWP.skip ?_ | refine AWP.label ?_ | refine AWP.exit ?_ | refine AWP.block ?_ | refine cTa ?_ | refine cFa ?_) | simp only [qS, Nat.reduceEqDiff, ↓reduceIte]))
                    exact ⟨(y + 1, v4), by simp only; omega, by simp only; omega, by rw [hU]; simp [Sub, lk, intL_scW]⟩
                  · have e : y = n := by omega
                    subst e
                    (repeat (first | ((with_reducible refine rgn_cons rfl (fun K hK => ?_)); simp only [go_sem, seval, ↓reduceIte, decide_true, decide_false, show ¬ (y : Int) < (y : Int) by omega, decide_false, wid ((j : Int) + 1) (by omega) (by omega)]; (refine hK _ _ _ (by simp only [go_sem, Nat.reduceEqDiff, ↓reduceIte]; rfl) ?_); clear hK; clear K) | (with_reducible first | refine rgn_nil (by first | trivial | kernel_rfl) ?_ | refine AWP.seq ?_ | refine tX hC hP (by kernel_rfl) ?_ | refine aX hC hM hP (by kernel_rfl) ?_ | refine AWP.skip ?_ | refine AWP.label ?_ | refine AWP.exit ?_ | refine AWP.block ?_ | refine cTa ?_ | refine cFa ?_) | simp only [qS, Nat.reduceEqDiff, ↓reduceIte]))
                    exact ⟨(j + 1, v4), by simp only; omega, by simp only; omega, by simp only [← suT_end (m := m) (k := r.length) (r := r) (n := y) (c := pc ll) (P := pwW m r.length r y A) (Q := pwW m r.length r y B) (i := i) (j := j)]; simp [Sub, lk]⟩
            · have e : j = n - i := by omega
              subst e
              (repeat (first | ((with_reducible refine rgn_cons rfl (fun K hK => ?_)); simp only [go_sem, seval, ↓reduceIte, decide_true, decide_false, show ¬ ((n - i : Nat) : Int) < ((n - i : Nat) : Int) by omega, decide_false, wid ((i : Int) + 1) (by omega) (by omega)]; (refine hK _ _ _ (by simp only [go_sem, Nat.reduceEqDiff, ↓reduceIte]; rfl) ?_); clear hK; clear K) | (with_reducible first | refine rgn_nil (by first | trivial | kernel_rfl) ?_ | refine AWP.seq ?_ | refine tX hC hP (by kernel_rfl) ?_ | refine aX hC hM hP (by kernel_rfl) ?_ | refine AWP.skip ?_ | refine AWP.label ?_ | refine AWP.exit ?_ | refine AWP.block ?_ | refine cTa ?_ | refine cFa ?_) | simp only [qS, Nat.reduceEqDiff, ↓reduceIte]))
              exact ⟨(i + 1, v3), by simp only; omega, by simp only; omega, by simp only [← suT_row (m := m) (k := r.length) (r := r) (n := n) (c := pc ll) (P := pwW m r.length r n A) (Q := pwW m r.length r n B) (i := i)]; simp [Sub, lk]⟩
        · have e : i = n := by omega
          subst e
          (repeat (first | ((with_reducible refine rgn_cons rfl (fun K hK => ?_)); simp only [go_sem, seval, ↓reduceIte, decide_true, decide_false, show ¬ (i : Int) < (i : Int) by omega, decide_false]; (refine hK _ _ _ (by simp only [go_sem, Nat.reduceEqDiff, ↓reduceIte]; rfl) ?_); clear hK; clear K) | (with_reducible first | refine rgn_nil (by first | trivial | kernel_rfl) ?_ | refine AWP.seq ?_ | refine tX hC hP (by kernel_rfl) ?_ | refine aX hC hM hP (by kernel_rfl) ?_ | refine AWP.skip ?_ | refine AWP.label ?_ | refine AWP.exit ?_ | refine AWP.block ?_ | refine cTa ?_ | refine cFa ?_) | simp only [qS, Nat.reduceEqDiff, ↓reduceIte]))
          (refine AWP.ret ?_; refine retOk1 (by simp only [go_sem, seval, ↓reduceIte, decide_true, decide_false]; rfl) ?_)
          rw [suT_last]
end Go.Proofs.Ytahnnangdepkbaa
