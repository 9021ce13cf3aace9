/-
  The laws' helpers: planes.
-/
import Derived.Test.YtahnnangdepkbabLcc
import Derived.Test.YtahnnangdepkbabMr
import Derived.Test.YtahnnangdepkbabKk
namespace Go.Proofs.Ytahnnangdepkbab
open Go.RowKit
set_option linter.unusedSimpArgs false
set_option linter.unusedVariables false
set_option linter.unusedSectionVars false
set_option maxRecDepth 20000
-- The laws' helpers: planes.
/-- The first i rows; behind them nothing. -/
def rowsN (ll : List (List Int)) (i : Nat) : List T := rowsO (ll.take i) ++ List.replicate (ll.length - i) T.nil
theorem rowsN_zero (ll : List (List Int)) : rowsN ll 0 = List.replicate ll.length T.nil := by simp [rowsN, rowsO]
theorem rowsN_end (ll : List (List Int)) : rowsN ll ll.length = rowsO ll := by simp [rowsN]
theorem rowsN_length (ll : List (List Int)) (i : Nat) (h : i ≤ ll.length) : (rowsN ll i).length = ll.length := by simp [rowsN, rowsO_length]; omega
theorem rowsN_at (ll : List (List Int)) (i : Nat) (h : i < ll.length) : (rowsN ll i)[i]? = some T.nil := by
  unfold rowsN
  rw [List.getElem?_append_right (by rw [rowsO_length, List.length_take]; omega), rowsO_length, List.length_take, show i - min i ll.length = 0 by omega]
  rw [List.getElem?_replicate, if_pos (by omega)]
theorem rowsN_size (ll : List (List Int)) (i : Nat) : ∀ t ∈ rowsN ll i, t.size = 1 := by
  intro t ht
  rcases List.mem_append.1 ht with h | h
  · simp only [rowsO, List.mem_map] at h
    obtain ⟨x, _, rfl⟩ := h
    rfl
  · rw [List.eq_of_mem_replicate h]; rfl
theorem rowsN_sizeT (ll : List (List Int)) (i : Nat) (h : i ≤ ll.length) : T.sizeL ((rowsN ll i).take i) = i := by
  rw [sizeL_of_all (n := 1) (fun t ht => rowsN_size ll i t (List.mem_of_mem_take ht)), List.length_take, rowsN_length ll i h]
  omega
theorem rowsN_set (ll : List (List Int)) (i : Nat) (h : i < ll.length) : (rowsN ll i).modify i (fun _ => (.sl true 2 (intL (ll.getD i [])))) = rowsN ll (i + 1) := by
  unfold rowsN
  have e1 : ll.take (i + 1) = ll.take i ++ [ll.getD i []] := by
    rw [List.take_add_one, List.getElem?_eq_getElem h, List.getD_eq_getElem?_getD, List.getElem?_eq_getElem h]; rfl
  have e2 : ll.length - i = (ll.length - (i + 1)) + 1 := by omega
  have hl : (rowsO (ll.take i)).length = i := by rw [rowsO_length, List.length_take]; omega
  rw [e1, ← rowsO_snocT, e2, List.replicate_succ, List.append_assoc]
  apply List.ext_getElem?
  intro j
  rw [List.getElem?_modify]
  by_cases hj : j < i
  · rw [List.getElem?_append_left (by omega), List.getElem?_append_left (by omega)]
    simp [show ¬ i = j by omega]
  · rw [List.getElem?_append_right (by omega), List.getElem?_append_right (by omega), hl]
    by_cases e : i = j
    · subst e; simp
    · rw [show j - i = (j - i - 1) + 1 by omega]; simp [e]
set_option maxHeartbeats 1000000 in
theorem c_laws_toInt64SS (ll : List (List Int)) (hs : Sm ll) : AFn Try.prog 17 [.sl false 26 (rowsF ll)] (.sl true 26 (rowsO ll)) := by
  refine AFn.of' ttOk (by decide) Try.func17 Try.ntmps17 (by rw [Try.results17]) (by rfl) (by rfl) (by simp) (by decide) (by simp only [go_sem, Nat.reduceAdd, ↓reduceIte]; rfl) mixed (fun C hP hM hC => ?_)
  have h0 := hs.1
  (repeat (first | ((with_reducible refine rgn_cons rfl (fun K hK => ?_)); simp only [go_sem, seval, ↓reduceIte, decide_true, decide_false, rowsF_length, Int.natCast_nonneg, Int.toNat_natCast, show (ll.length : Int) ≤ 1099511627776 by omega]; (refine hK _ _ _ (by simp only [go_sem, Nat.reduceEqDiff, ↓reduceIte]; rfl) ?_); clear hK; clear K) | (with_reducible first | refine rgn_nil (by first | trivial | kernel_rfl) ?_ | refine AWP.seq ?_ | refine tX hC hP (by kernel_rfl) ?_ | refine aX hC hM hP (by kernel_rfl) ?_ | refine AWP.skip ?_ | refine AWP.label ?_ | refine AWP.exit ?_ | refine AWP.block ?_ | refine cTa ?_ | refine cFa ?_) | simp only [qS, Nat.reduceEqDiff, ↓reduceIte]))
  refine AWP.loop (fun w : Nat × Nat => [(4, ⟨0, .val (.int .i64 w.1)⟩), (3, ⟨w.2, .own (.sl true 26 (rowsN ll w.1))⟩), (0, ⟨0, .val (.sl false 26 (rowsF ll))⟩)]) (fun w => w.1 ≤ ll.length) (fun w => ll.length - w.1) (0, 1) (Nat.zero_le _) (fun i => rfl) ?_ (fun w hw => ?_)
  · simp [Sub, lk, rowsN_zero]
  · obtain ⟨i, v⟩ := w
    simp only at hw ⊢
    by_cases hlt : i < ll.length
    · have hsr := hs.2 i
      (repeat (first | ((with_reducible refine rgn_cons rfl (fun K hK => ?_)); simp only [go_sem, seval, ↓reduceIte, decide_true, decide_false, rowsF_length, show (i : Int) < (ll.length : Int) by omega, decide_true, rowsF_getD ll i hlt, Int.toNat_natCast, Int.natCast_nonneg, rowsN_length ll i hw, rowsN_at ll i hlt, rowsN_sizeT ll i hw, Nat.mul_one, rowsN_set ll i hlt, wid ((i : Int) + 1) (by omega) (by omega)]; (first | refine hK _ _ _ (by simp only [go_sem, Nat.reduceEqDiff, ↓reduceIte]; rfl) ?_ | refine ⟨_, c_laws_toInt64S (ll.getD i []) (by omega), hK _ _ _ (by simp only [go_sem, Nat.reduceEqDiff, ↓reduceIte]; rfl) ?_⟩); clear hK; clear K) | (with_reducible first | refine rgn_nil (by first | trivial | kernel_rfl) ?_ | refine AWP.seq ?_ | refine tX hC hP (by kernel_rfl) ?_ | refine aX hC hM hP (by kernel_rfl) ?_ | refine AWP.skip ?_ | refine AWP.label ?_ | refine AWP.exit ?_ | refine AWP.block ?_ | refine cTa ?_ | refine cFa ?_) | simp only [qS, Nat.reduceEqDiff, ↓reduceIte]))
      exact ⟨(i + 1, v + 1), by simp only; omega, by simp only; omega, by simp [Sub, lk]⟩
    · have e : i = ll.length := by omega
      subst e
      (repeat (first | ((with_reducible refine rgn_cons rfl (fun K hK => ?_)); simp only [go_sem, seval, ↓reduceIte, decide_true, decide_false, rowsF_length, show ¬ (ll.length : Int) < (ll.length : Int) by omega, decide_false]; (refine hK _ _ _ (by simp only [go_sem, Nat.reduceEqDiff, ↓reduceIte]; rfl) ?_); clear hK; clear K) | (with_reducible first | refine rgn_nil (by first | trivial | kernel_rfl) ?_ | refine AWP.seq ?_ | refine tX hC hP (by kernel_rfl) ?_ | refine aX hC hM hP (by kernel_rfl) ?_ | refine AWP.skip ?_ | refine AWP.label ?_ | refine AWP.exit ?_ | refine AWP.block ?_ | refine cTa ?_ | refine cFa ?_) | simp only [qS, Nat.reduceEqDiff, ↓reduceIte]))
      (refine AWP.ret ?_; refine retOk1 (by simp only [go_sem, seval, ↓reduceIte, decide_true, decide_false, rowsN_end]; rfl) ?_)
      rfl
set_option maxHeartbeats 1000000 in
theorem c_laws_toPlane (m : Int) (ll : List (List Int)) (hs : Sm ll) : AFn Try.prog 6 [.agg [.int .i64 m, .sl false 26 (rowsF ll)]] (.agg [.int .i64 m, .sl true 26 (rowsO ll)]) := by
  refine AFn.of' ttOk (by decide) Try.func6 Try.ntmps6 (by rw [Try.results6]) (by rfl) (by rfl) (by simp) (by decide) (by simp only [go_sem, Nat.reduceAdd, ↓reduceIte]; rfl) mixed (fun C hP hM hC => ?_)
  (repeat (first | ((with_reducible refine rgn_cons rfl (fun K hK => ?_)); simp only [go_sem, seval, ↓reduceIte, decide_true, decide_false]; (first | refine hK _ _ _ (by simp only [go_sem, Nat.reduceEqDiff, ↓reduceIte]; rfl) ?_ | refine ⟨_, c_laws_toInt64SS ll hs, hK _ _ _ (by simp only [go_sem, Nat.reduceEqDiff, ↓reduceIte]; rfl) ?_⟩); clear hK; clear K) | (with_reducible first | refine rgn_nil (by first | trivial | kernel_rfl) ?_ | refine AWP.seq ?_ | refine tX hC hP (by kernel_rfl) ?_ | refine aX hC hM hP (by kernel_rfl) ?_ | refine AWP.skip ?_ | refine AWP.label ?_ | refine AWP.exit ?_ | refine AWP.block ?_ | refine cTa ?_ | refine cFa ?_) | simp only [qS, Nat.reduceEqDiff, ↓reduceIte]))
  (refine AWP.ret ?_; refine retOk1 (by simp only [go_sem, seval, ↓reduceIte, decide_true, decide_false]; rfl) ?_)
  rfl
theorem total_rows : ∀ (ll : List (List Int)) (i : Nat), (ll.getD i []).length ≤ total ll
  | [], i => by simp
  | l :: ll, 0 => by simp only [List.getD_cons_zero, total]; omega
  | l :: ll, i + 1 => by
    have := total_rows ll i
    simp only [List.getD_cons_succ, total]; omega
theorem Sm.of {ll : List (List Int)} (h : total ll ≤ 1000000000 ∧ ll.length ≤ 1000000000) : Sm ll := ⟨h.2, fun i => Nat.le_trans (total_rows ll i) h.1⟩
set_option maxHeartbeats 1000000 in
theorem c_laws_eqPlane (m : Int) (ll : List (List Int)) (h : total ll ≤ 1000000000 ∧ ll.length ≤ 1000000000) : AFn Try.prog 9 [.agg [.int .i64 m, .sl false 26 (rowsF ll)], .agg [.int .i64 m, .sl false 26 (rowsF ll)]] (.bool true) := by
  refine AFn.of' ttOk (by decide) Try.func9 Try.ntmps9 (by rw [Try.results9]) (by rfl) (by rfl) (by simp) (by decide) (by simp only [go_sem, Nat.reduceAdd, ↓reduceIte]; rfl) mixed (fun C hP hM hC => ?_)
  (repeat (first | ((with_reducible refine rgn_cons rfl (fun K hK => ?_)); simp only [go_sem, seval, ↓reduceIte, decide_true, decide_false]; (first | refine hK _ _ _ (by simp only [go_sem, Nat.reduceEqDiff, ↓reduceIte]; rfl) ?_ | refine ⟨_, c_laws_eqInt64SS ll h, hK _ _ _ (by simp only [go_sem, Nat.reduceEqDiff, ↓reduceIte]; rfl) ?_⟩); clear hK; clear K) | (with_reducible first | refine rgn_nil (by first | trivial | kernel_rfl) ?_ | refine AWP.seq ?_ | refine tX hC hP (by kernel_rfl) ?_ | refine aX hC hM hP (by kernel_rfl) ?_ | refine AWP.skip ?_ | refine AWP.label ?_ | refine AWP.exit ?_ | refine AWP.block ?_ | refine cTa ?_ | refine cFa ?_) | simp only [qS, Nat.reduceEqDiff, ↓reduceIte]))
  (refine AWP.ret ?_; refine retOk1 (by simp only [go_sem, seval, ↓reduceIte, decide_true, decide_false]; rfl) ?_)
  rfl
/-- What is left when all rows have been measured. -/
def szR : List (List Int) → Int → Int
  | [], left => left
  | l :: ll, left => if szF l.length left < 0 then -1 else szR ll (szF l.length left)
def szP (ll : List (List Int)) (left : Int) : Int := if left - ll.length < 0 then -1 else szR ll (left - ll.length)
theorem szR_bound : ∀ (ll : List (List Int)) (left : Int), 0 ≤ left → ¬ szR ll left < 0 → (total ll : Int) + szR ll left ≤ left
  | [], left, _, _ => by simp [szR, total]
  | l :: ll, left, h0, h => by
    unfold szR at h ⊢
    by_cases h1 : szF l.length left < 0
    · rw [if_pos h1] at h; omega
    · rw [if_neg h1] at h ⊢
      have ih := szR_bound ll _ (by omega) h
      have h2 : szF l.length left = left - l.length := by
        unfold szF at h1 ⊢
        split
        · rename_i g; rw [if_pos g] at h1; omega
        · rfl
      simp only [total]
      omega
theorem szP_tot {ll : List (List Int)} {left : Int} (h : ¬ szP ll left < 0) (h2 : left ≤ 1048576) : total ll ≤ 1048576 := by
  unfold szP at h
  by_cases h1 : left - (ll.length : Int) < 0
  · rw [if_pos h1] at h; omega
  · rw [if_neg h1] at h
    have := szR_bound ll _ (by omega) h
    omega
theorem szP_bound {ll : List (List Int)} {left : Int} (h : ¬ szP ll left < 0) (h2 : left ≤ 1048576) : total ll ≤ 1000000000 ∧ ll.length ≤ 1000000000 ∧ szP ll left ≤ 1048576 ∧ 0 ≤ szP ll left := by
  unfold szP at h ⊢
  by_cases h1 : left - (ll.length : Int) < 0
  · rw [if_pos h1] at h; omega
  · rw [if_neg h1] at h ⊢
    have := szR_bound ll _ (by omega) h
    omega
theorem szR_drop (ll : List (List Int)) (i : Nat) (left : Int) (h : i < ll.length) : szR (ll.drop i) left = if szF (ll.getD i []).length left < 0 then -1 else szR (ll.drop (i + 1)) (szF (ll.getD i []).length left) := by
  rw [List.drop_eq_getElem_cons h, szR, List.getD_eq_getElem?_getD, List.getElem?_eq_getElem h]; rfl
set_option maxHeartbeats 1000000 in
theorem c_laws_szInt64SS (ll : List (List Int)) (left : Int) (hl : ll.length ≤ 9223372036854775807) (hr : ∀ i, (ll.getD i []).length ≤ 9223372036854775807) (h1 : 0 ≤ left) (h2 : left ≤ 1048576) : AFn Try.prog 13 [.sl false 26 (rowsF ll), .int .i64 left] (.int .i64 (szP ll left)) := by
  refine AFn.of' ttOk (by decide) Try.func13 Try.ntmps13 (by rw [Try.results13]) (by rfl) (by rfl) (by simp) (by decide) (by simp only [go_sem, Nat.reduceAdd, ↓reduceIte]; rfl) mixed (fun C hP hM hC => ?_)
  have hw := wid (left - ll.length) (by omega) (by omega)
  by_cases h : left - (ll.length : Int) < 0
  · (repeat (first | ((with_reducible refine rgn_cons rfl (fun K hK => ?_)); simp only [go_sem, seval, ↓reduceIte, decide_true, decide_false, rowsF_length, hw, h, decide_true]; (refine hK _ _ _ (by simp only [go_sem, Nat.reduceEqDiff, ↓reduceIte]; rfl) ?_); clear hK; clear K) | (with_reducible first | refine rgn_nil (by first | trivial | kernel_rfl) ?_ | refine AWP.seq ?_ | refine tX hC hP (by kernel_rfl) ?_ | refine aX hC hM hP (by kernel_rfl) ?_ | refine AWP.skip ?_ | refine AWP.label ?_ | refine AWP.exit ?_ | refine AWP.block ?_ | refine cTa ?_ | refine cFa ?_) | simp only [qS, Nat.reduceEqDiff, ↓reduceIte]))
    (refine AWP.ret ?_; refine retOk1 (by simp only [go_sem, seval, ↓reduceIte, decide_true, decide_false]; rfl) ?_)
    simp [szP, h]
  · (repeat (first | ((with_reducible refine rgn_cons rfl (fun K hK => ?_)); simp only [go_sem, seval, ↓reduceIte, decide_true, decide_false, rowsF_length, hw, h, decide_false]; (refine hK _ _ _ (by simp only [go_sem, Nat.reduceEqDiff, ↓reduceIte]; rfl) ?_); clear hK; clear K) | (with_reducible first | refine rgn_nil (by first | trivial | kernel_rfl) ?_ | refine AWP.seq ?_ | refine tX hC hP (by kernel_rfl) ?_ | refine aX hC hM hP (by kernel_rfl) ?_ | refine AWP.skip ?_ | refine AWP.label ?_ | refine AWP.exit ?_ | refine AWP.block ?_ | refine cTa ?_ | refine cFa ?_) | simp only [qS, Nat.reduceEqDiff, ↓reduceIte]))
    refine AWP.loop (fun w : Nat × Int => [(5, ⟨0, .val (.int .i64 w.1)⟩), (1, ⟨0, .val (.int .i64 w.2)⟩), (0, ⟨0, .val (.sl false 26 (rowsF ll))⟩)]) (fun w => w.1 ≤ ll.length ∧ 0 ≤ w.2 ∧ w.2 ≤ 1048576 ∧ szR (ll.drop w.1) w.2 = szP ll left) (fun w => ll.length - w.1) (0, left - ll.length) ⟨Nat.zero_le _, by simp only; omega, by simp only; omega, by simp [szP, h]⟩ (fun i => rfl) ?_ (fun w hw2 => ?_)
    · simp [Sub, lk]
    · obtain ⟨i, q⟩ := w
      simp only at hw2 ⊢
      by_cases hlt : i < ll.length
      · have hd := szR_drop ll i q hlt
        have hc := c_laws_szInt64S (ll.getD i []) q (hr i) hw2.2.1 hw2.2.2.1
        by_cases h3 : szF (ll.getD i []).length q < 0
        · rw [if_pos h3] at hd
          (repeat (first | ((with_reducible refine rgn_cons rfl (fun K hK => ?_)); simp only [go_sem, seval, ↓reduceIte, decide_true, decide_false, rowsF_length, show (i : Int) < (ll.length : Int) by omega, decide_true, rowsF_getD ll i hlt, Int.toNat_natCast, Int.natCast_nonneg, h3]; (first | refine hK _ _ _ (by simp only [go_sem, Nat.reduceEqDiff, ↓reduceIte]; rfl) ?_ | refine ⟨_, hc, hK _ _ _ (by simp only [go_sem, Nat.reduceEqDiff, ↓reduceIte]; rfl) ?_⟩); clear hK; clear K) | (with_reducible first | refine rgn_nil (by first | trivial | kernel_rfl) ?_ | refine AWP.seq ?_ | refine tX hC hP (by kernel_rfl) ?_ | refine aX hC hM hP (by kernel_rfl) ?_ | refine AWP.skip ?_ | refine AWP.label ?_ | refine AWP.exit ?_ | refine AWP.block ?_ | refine cTa ?_ | refine cFa ?_) | simp only [qS, Nat.reduceEqDiff, ↓reduceIte]))
          (refine AWP.ret ?_; refine retOk1 (by simp only [go_sem, seval, ↓reduceIte, decide_true, decide_false]; rfl) ?_)
          rw [← hw2.2.2.2, hd]
        · rw [if_neg h3] at hd
          have hb := szF_bound h3 hw2.2.2.1
          (repeat (first | ((with_reducible refine rgn_cons rfl (fun K hK => ?_)); simp only [go_sem, seval, ↓reduceIte, decide_true, decide_false, rowsF_length, show (i : Int) < (ll.length : Int) by omega, decide_true, decide_false, rowsF_getD ll i hlt, Int.toNat_natCast, Int.natCast_nonneg, h3, wid ((i : Int) + 1) (by omega) (by omega)]; (first | refine hK _ _ _ (by simp only [go_sem, Nat.reduceEqDiff, ↓reduceIte]; rfl) ?_ | refine ⟨_, hc, hK _ _ _ (by simp only [go_sem, Nat.reduceEqDiff, ↓reduceIte]; rfl) ?_⟩); clear hK; clear K) | (with_reducible first | refine rgn_nil (by first | trivial | kernel_rfl) ?_ | refine AWP.seq ?_ | refine tX hC hP (by kernel_rfl) ?_ | refine aX hC hM hP (by kernel_rfl) ?_ | refine AWP.skip ?_ | refine AWP.label ?_ | refine AWP.exit ?_ | refine AWP.block ?_ | refine cTa ?_ | refine cFa ?_) | simp only [qS, Nat.reduceEqDiff, ↓reduceIte]))
          exact ⟨(i + 1, szF (ll.getD i []).length q), ⟨by simp only; omega, hb.2.2, hb.2.1, by rw [← hw2.2.2.2, hd]⟩, by simp only; omega, by simp [Sub, lk]⟩
      · (repeat (first | ((with_reducible refine rgn_cons rfl (fun K hK => ?_)); simp only [go_sem, seval, ↓reduceIte, decide_true, decide_false, rowsF_length, show ¬ (i : Int) < (ll.length : Int) by omega, decide_false]; (refine hK _ _ _ (by simp only [go_sem, Nat.reduceEqDiff, ↓reduceIte]; rfl) ?_); clear hK; clear K) | (with_reducible first | refine rgn_nil (by first | trivial | kernel_rfl) ?_ | refine AWP.seq ?_ | refine tX hC hP (by kernel_rfl) ?_ | refine aX hC hM hP (by kernel_rfl) ?_ | refine AWP.skip ?_ | refine AWP.label ?_ | refine AWP.exit ?_ | refine AWP.block ?_ | refine cTa ?_ | refine cFa ?_) | simp only [qS, Nat.reduceEqDiff, ↓reduceIte]))
        (refine AWP.ret ?_; refine retOk1 (by simp only [go_sem, seval, ↓reduceIte, decide_true, decide_false]; rfl) ?_)
        rw [← hw2.2.2.2, List.drop_eq_nil_of_le (by omega)]; rfl
theorem szP_neg {ll : List (List Int)} {left : Int} (h : szP ll left < 0) (h1 : 0 ≤ left) : szP ll left = -1 := by
  have key : ∀ (ll : List (List Int)) (left : Int), 0 ≤ left → szR ll left < 0 → szR ll left = -1 := by
    intro ll
    induction ll with
    | nil => intro left h0 h; simp only [szR] at h; omega
    | cons l ll ih =>
      intro left h0 h
      unfold szR at h ⊢
      by_cases h1 : szF l.length left < 0
      · rw [if_pos h1]
      · rw [if_neg h1] at h ⊢; exact ih _ (by omega) h
  unfold szP at h ⊢
  by_cases h2 : left - (ll.length : Int) < 0
  · rw [if_pos h2]
  · rw [if_neg h2] at h ⊢; exact key _ _ (by omega) h
set_option maxHeartbeats 1000000 in
theorem c_laws_szPlane (m : Int) (ll : List (List Int)) (left : Int) (hl : ll.length ≤ 9223372036854775807) (hr : ∀ i, (ll.getD i []).length ≤ 9223372036854775807) (h1 : 0 ≤ left) (h2 : left ≤ 1048576) : AFn Try.prog 4 [.agg [.int .i64 m, .sl false 26 (rowsF ll)], .int .i64 left] (.int .i64 (szP ll left)) := by
  refine AFn.of' ttOk (by decide) Try.func4 Try.ntmps4 (by rw [Try.results4]) (by rfl) (by rfl) (by simp) (by decide) (by simp only [go_sem, Nat.reduceAdd, ↓reduceIte]; rfl) mixed (fun C hP hM hC => ?_)
  by_cases h : szP ll left < 0
  · (repeat (first | ((with_reducible refine rgn_cons rfl (fun K hK => ?_)); simp only [go_sem, seval, ↓reduceIte, decide_true, decide_false, h, decide_true]; (first | refine hK _ _ _ (by simp only [go_sem, Nat.reduceEqDiff, ↓reduceIte]; rfl) ?_ | refine ⟨_, c_laws_szInt64SS ll left hl hr h1 h2, hK _ _ _ (by simp only [go_sem, Nat.reduceEqDiff, ↓reduceIte]; rfl) ?_⟩); clear hK; clear K) | (with_reducible first | refine rgn_nil (by first | trivial | kernel_rfl) ?_ | refine AWP.seq ?_ | refine tX hC hP (by kernel_rfl) ?_ | refine aX hC hM hP (by kernel_rfl) ?_ | refine AWP.skip ?_ | refine AWP.label ?_ | refine AWP.exit ?_ | refine AWP.block ?_ | refine cTa ?_ | refine cFa ?_) | simp only [qS, Nat.reduceEqDiff, ↓reduceIte]))
    (refine AWP.ret ?_; refine retOk1 (by simp only [go_sem, seval, ↓reduceIte, decide_true, decide_false]; rfl) ?_)
    rw [szP_neg h h1]
  · (repeat (first | ((with_reducible refine rgn_cons rfl (fun K hK => ?_)); simp only [go_sem, seval, ↓reduceIte, decide_true, decide_false, h, decide_false]; (first | refine hK _ _ _ (by simp only [go_sem, Nat.reduceEqDiff, ↓reduceIte]; rfl) ?_ | refine ⟨_, c_laws_szInt64SS ll left hl hr h1 h2, hK _ _ _ (by simp only [go_sem, Nat.reduceEqDiff, ↓reduceIte]; rfl) ?_⟩); clear hK; clear K) | (with_reducible first | refine rgn_nil (by first | trivial | kernel_rfl) ?_ | refine AWP.seq ?_ | refine tX hC hP (by kernel_rfl) ?_ | refine aX hC hM hP (by kernel_rfl) ?_ | refine AWP.skip ?_ | refine AWP.label ?_ | refine AWP.exit ?_ | refine AWP.block ?_ | refine cTa ?_ | refine cFa ?_) | simp only [qS, Nat.reduceEqDiff, ↓reduceIte]))
    (refine AWP.ret ?_; refine retOk1 (by simp only [go_sem, seval, ↓reduceIte, decide_true, decide_false]; rfl) ?_)
    rfl
end Go.Proofs.Ytahnnangdepkbab
