/-
  F(a, b) for curves a, b.
-/
import Derived.Test.YtahnnangdepkbaaQb
namespace Go.Proofs.Ytahnnangdepkbaa
open Go.RowKit
set_option linter.unusedSimpArgs false
set_option linter.unusedVariables false
set_option linter.unusedSectionVars false
set_option maxRecDepth 20000
-- F(a, b) for curves a, b.
/-- The terms of a part of a row. -/
def putR (m : Int) (t : Nat → Nat → Int) (P Q : Nat → List Int) (d i : Nat) (acc : List Int) : Nat → List Int
  | 0 => acc
  | j + 1 => if t i j = 0 then putR m t P Q d i acc j else addL m (putR m t P Q d i acc j) (scL m (t i j) (timesL m (P i) (Q j) d) d) d
def putO (m : Int) (t : Nat → Nat → Int) (P Q : Nat → List Int) (d : Nat) : Nat → List Int
  | 0 => tab (d + 1) (fun _ => 0)
  | i + 1 => putR m t P Q d i (putO m t P Q d i) (d + 1 - i)
def putL (m : Int) (t : Nat → Nat → Int) (a b : List Int) (d : Nat) : List Int := putO m t (pwS m a d) (pwS m b d) d (d + 1)
theorem putR_facts {m : Int} (hm : 0 < m) (t : Nat → Nat → Int) (P Q : Nat → List Int) (d i : Nat) {acc : List Int} (h : acc.length = d + 1 ∧ ∀ x ∈ acc, 0 ≤ x ∧ x < m) : ∀ j, (putR m t P Q d i acc j).length = d + 1 ∧ ∀ x ∈ putR m t P Q d i acc j, 0 ≤ x ∧ x < m
  | 0 => h
  | j + 1 => by
    unfold putR
    split
    · exact putR_facts hm t P Q d i h j
    · exact addL_num hm _ _ _
theorem putO_facts {m : Int} (hm : 0 < m) (t : Nat → Nat → Int) (P Q : Nat → List Int) (d : Nat) : ∀ i, (putO m t P Q d i).length = d + 1 ∧ ∀ x ∈ putO m t P Q d i, 0 ≤ x ∧ x < m
  | 0 => ⟨tab_length _ _, fun x hx => by obtain ⟨i, _, rfl⟩ := mem_tab.1 hx; omega⟩
  | i + 1 => putR_facts hm t P Q d i (putO_facts hm t P Q d i) _
theorem putL_facts {m : Int} (hm : 0 < m) (t : Nat → Nat → Int) (a b : List Int) (d : Nat) : (putL m t a b d).length = d + 1 ∧ ∀ x ∈ putL m t a b d, 0 ≤ x ∧ x < m := putO_facts hm _ _ _ _ _
set_option maxHeartbeats 4000000 in
theorem c_impl_Plane_curves (m : Int) (ll : List (List Int)) (la lb : List Int) (d : Nat) (hm : 1 < m) (hm2 : m ≤ 10000) (hl : Pl m (d + 1) ll) (ha : ∀ x ∈ la, 0 ≤ x ∧ x < m) (hla : la.length = d + 1) (hb : ∀ x ∈ lb, 0 ≤ x ∧ x < m) (hlb : lb.length = d + 1) (hd : d ≤ 999) : AFn Try.prog 21 [.agg [.int .i64 m, .sl false 27 (rowsF ll)], .agg [.int .i64 m, .sl false 2 (intL la)], .agg [.int .i64 m, .sl false 2 (intL lb)]] (.agg [.int .i64 m, .sl true 2 (intL (putL m (pc ll) la lb d))]) := by
  refine AFn.of' ttOk (by decide) Try.func21 Try.ntmps21 (by rw [Try.results21]) (by rfl) (by rfl) (by simp) (by decide) (by simp only [go_sem, Nat.reduceAdd, ↓reduceIte]; rfl) mixed (fun C hP hM hC => ?_)
  have h0 := c_impl_Series_constant m la 0 (by omega) (by omega) (by omega) (by omega)
  rw [hla, show tab (d + 1) (fun j => if j = 0 then (0 : Int) % m else 0) = tab (d + 1) (fun _ => 0) from tab_congr fun j _ => by simp] at h0
  (repeat (first | ((with_reducible refine rgn_cons rfl (fun K hK => ?_)); simp only [go_sem, seval, ↓reduceIte, decide_true, decide_false, rowsF_length, hl.len]; (first | refine hK _ _ _ (by simp only [go_sem, Nat.reduceEqDiff, ↓reduceIte]; rfl) ?_ | refine ⟨_, h0, hK _ _ _ (by simp only [go_sem, Nat.reduceEqDiff, ↓reduceIte]; rfl) ?_⟩ | refine ⟨_, c_impl_Series_powers m la d hm hm2 ha hla (by omega), hK _ _ _ (by simp only [go_sem, Nat.reduceEqDiff, ↓reduceIte]; rfl) ?_⟩ | refine ⟨_, c_impl_Series_powers m lb d hm hm2 hb hlb (by omega), hK _ _ _ (by simp only [go_sem, Nat.reduceEqDiff, ↓reduceIte]; rfl) ?_⟩); clear hK; clear K) | (with_reducible first | refine rgn_nil (by first | trivial | kernel_rfl) ?_ | refine AWP.seq ?_ | refine tX hC hP (by kernel_rfl) ?_ | refine aX hC hM hP (by kernel_rfl) ?_ | refine AWP.skip ?_ | refine AWP.label ?_ | refine AWP.exit ?_ | refine AWP.block ?_ | refine cTa ?_ | refine cFa ?_) | simp only [qS, Nat.reduceEqDiff, ↓reduceIte]))
  refine AWP.loop (fun w : Nat × Nat => [(23, ⟨0, .val (.int .i64 w.1)⟩), (22, ⟨0, .val (.int .i64 (d + 1 : Nat))⟩), (21, ⟨0, .val (.sl false 27 (rowsF ll))⟩), (7, ⟨w.2, .own (.box 36 (.agg [.int .i64 m, .sl true 2 (intL (putO m (pc ll) (pwS m la d) (pwS m lb d) d w.1))]))⟩), (8, ⟨1, .own (.sl true 36 (serO m (pwSL m la d (d + 1))))⟩), (9, ⟨1, .own (.sl true 36 (serO m (pwSL m lb d (d + 1))))⟩), (6, ⟨1, .own (.box 36 (.agg [.int .i64 0, .nil]))⟩)]) (fun w => w.1 ≤ d + 1) (fun w => d + 1 - w.1) (0, 2) (Nat.zero_le _) (fun i => rfl) ?_ (fun w hw => ?_)
  · simp [Sub, lk, putO]
  · obtain ⟨i, v⟩ := w
    simp only at hw ⊢
    by_cases hi : i < d + 1
    · have hrow := hl.row i hi
      (repeat (first | ((with_reducible refine rgn_cons rfl (fun K hK => ?_)); simp only [go_sem, seval, ↓reduceIte, decide_true, decide_false, show (i : Int) < ((d + 1 : Nat) : Int) by omega, decide_true, rowsF_getD ll i (by rw [hl.len]; exact hi), rowsF_length, hl.len, Int.toNat_natCast, Int.natCast_nonneg, hrow]; (refine hK _ _ _ (by simp only [go_sem, Nat.reduceEqDiff, ↓reduceIte]; rfl) ?_); clear hK; clear K) | (with_reducible first | refine rgn_nil (by first | trivial | kernel_rfl) ?_ | refine AWP.seq ?_ | refine tX hC hP (by kernel_rfl) ?_ | refine aX hC hM hP (by kernel_rfl) ?_ | refine AWP.skip ?_ | refine AWP.label ?_ | refine AWP.exit ?_ | refine AWP.block ?_ | refine cTa ?_ | refine cFa ?_) | simp only [qS, Nat.reduceEqDiff, ↓reduceIte]))
      refine AWP.loop (fun w : Nat × Nat => [(30, ⟨0, .val (.int .i64 w.1)⟩), (29, ⟨0, .val (.int .i64 (d + 1 - i : Nat))⟩), (28, ⟨0, .val (.sl false 2 (intL (ll.getD i [])))⟩), (10, ⟨0, .val (.int .i64 i)⟩), (23, ⟨0, .val (.int .i64 i)⟩), (22, ⟨0, .val (.int .i64 (d + 1 : Nat))⟩), (21, ⟨0, .val (.sl false 27 (rowsF ll))⟩), (7, ⟨w.2, .own (.box 36 (.agg [.int .i64 m, .sl true 2 (intL (putR m (pc ll) (pwS m la d) (pwS m lb d) d i (putO m (pc ll) (pwS m la d) (pwS m lb d) d i) w.1))]))⟩), (8, ⟨1, .own (.sl true 36 (serO m (pwSL m la d (d + 1))))⟩), (9, ⟨1, .own (.sl true 36 (serO m (pwSL m lb d (d + 1))))⟩), (6, ⟨1, .own (.box 36 (.agg [.int .i64 0, .nil]))⟩)]) (fun w => i + w.1 ≤ d + 1) (fun w => d + 1 - w.1) (0, v) (by simp only; omega) (fun i => rfl) ?_ (fun w hw2 => ?_)
      · simp [Sub, lk, putR]
      · obtain ⟨j, v⟩ := w
        simp only at hw2 ⊢
        by_cases hj : i + j < d + 1
        · have k1 : j < (ll.getD i []).length := by omega
          have hx := hl.num i j
          by_cases h0 : pc ll i j = 0
          · have hE : putR m (pc ll) (pwS m la d) (pwS m lb d) d i (putO m (pc ll) (pwS m la d) (pwS m lb d) d i) (j + 1) = putR m (pc ll) (pwS m la d) (pwS m lb d) d i (putO m (pc ll) (pwS m la d) (pwS m lb d) d i) j := by rw [putR, if_pos h0]
            (repeat (first | ((with_reducible refine rgn_cons rfl (fun K hK => ?_)); simp only [go_sem, seval, ↓reduceIte, decide_true, decide_false, show (j : Int) < ((d + 1 - i : Nat) : Int) by omega, decide_true, Int.toNat_natCast, Int.natCast_nonneg, intL_getD _ j k1, hrow, show (ll.getD i []).getD j 0 = pc ll i j from rfl, h0, show ((0 : Int) != 0) = false from rfl, wid ((j : Int) + 1) (by omega) (by omega)]; (refine hK _ _ _ (by simp only [go_sem, Nat.reduceEqDiff, ↓reduceIte]; rfl) ?_); clear hK; clear K) | (with_reducible first | refine rgn_nil (by first | trivial | kernel_rfl) ?_ | refine AWP.seq ?_ | refine tX hC hP (by kernel_rfl) ?_ | refine aX hC hM hP (by kernel_rfl) ?_ | refine AWP.skip ?_ | refine AWP.label ?_ | refine AWP.exit ?_ | refine AWP.block ?_ | refine cTa ?_ | refine cFa ?_) | simp only [qS, Nat.reduceEqDiff, ↓reduceIte]))
            exact ⟨(j + 1, v), by simp only; omega, by simp only; omega, by simp only [hE]; simp [Sub, lk]⟩
          · have hE : putR m (pc ll) (pwS m la d) (pwS m lb d) d i (putO m (pc ll) (pwS m la d) (pwS m lb d) d i) (j + 1) = addL m (putR m (pc ll) (pwS m la d) (pwS m lb d) d i (putO m (pc ll) (pwS m la d) (pwS m lb d) d i) j) (scL m (pc ll i j) (timesL m (pwS m la d i) (pwS m lb d j) d) d) d := by rw [putR, if_neg h0]
            have p1 := pwS_facts hm la d i
            have p2 := pwS_facts hm lb d j
            have x1 : i < (pwSL m la d (d + 1)).length := by rw [pwSL_length]; omega
            have x2 : j < (pwSL m lb d (d + 1)).length := by rw [pwSL_length]; omega
            have hT := c_impl_Series_times m (pwS m la d i) (pwS m lb d j) d (by omega) hm2 p1.2 p2.2 p1.1 p2.1 (by omega)
            have hS := c_impl_Series_scaled m (pc ll i j) (timesL m (pwS m la d i) (pwS m lb d j) d) d (by omega) hm2 (timesL_num _ _ _ _ (by omega)) (timesL_length _ _ _ _) (by omega) hx.1 hx.2
            have pr2 := putR_facts (m := m) (by omega) (pc ll) (pwS m la d) (pwS m lb d) d i (putO_facts (by omega) (pc ll) (pwS m la d) (pwS m lb d) d i) j
            have sc2 := scL_num (m := m) (by omega) (pc ll i j) (timesL m (pwS m la d i) (pwS m lb d j) d) d
            have hA := c_impl_Series_plus m (putR m (pc ll) (pwS m la d) (pwS m lb d) d i (putO m (pc ll) (pwS m la d) (pwS m lb d) d i) j) (scL m (pc ll i j) (timesL m (pwS m la d i) (pwS m lb d j) d) d) d (by omega) hm2 pr2.2 sc2.2 pr2.1 sc2.1 (by omega)
            (repeat (first | ((with_reducible refine rgn_cons rfl (fun K hK => ?_)); simp only [go_sem, seval, ↓reduceIte, decide_true, decide_false, show (j : Int) < ((d + 1 - i : Nat) : Int) by omega, decide_true, Int.toNat_natCast, Int.natCast_nonneg, intL_getD _ j k1, hrow, show (ll.getD i []).getD j 0 = pc ll i j from rfl, show (pc ll i j != 0) = true by simpa using h0, serO_length, pwSL_length, serO_at _ _ _ x1, serO_at _ _ _ x2, serO_sizeT _ _ _ (Nat.le_of_lt x1), serO_sizeT _ _ _ (Nat.le_of_lt x2), pwSL_getD (show i < d + 1 by omega), pwSL_getD (show j < d + 1 by omega), show (i : Int) < ((d + 1 : Nat) : Int) by omega, show (j : Int) < ((d + 1 : Nat) : Int) by omega, wid ((j : Int) + 1) (by omega) (by omega)]; (first | refine hK _ _ _ (by simp only [go_sem, Nat.reduceEqDiff, ↓reduceIte]; rfl) ?_ | refine ⟨_, hT, hK _ _ _ (by simp only [go_sem, Nat.reduceEqDiff, ↓reduceIte]; rfl) ?_⟩ | refine ⟨_, hS, hK _ _ _ (by simp only [go_sem, Nat.reduceEqDiff, ↓reduceIte]; rfl) ?_⟩ | refine ⟨_, hA, hK _ _ _ (by simp only [go_sem, Nat.reduceEqDiff, ↓reduceIte]; rfl) ?_⟩); clear hK; clear K) | (with_reducible first | refine rgn_nil (by first | trivial | kernel_rfl) ?_ | refine AWP.seq ?_ | refine tX hC hP (by kernel_rfl) ?_ | refine aX hC hM hP (by kernel_rfl) ?_ | refine AWP.skip ?_ | refine AWP.label ?_ | refine AWP.exit ?_ | refine AWP.block ?_ | refine cTa ?_ | refine cFa ?_) | simp only [qS, Nat.reduceEqDiff, ↓reduceIte]))
            exact ⟨(j + 1, v + 1), by simp only; omega, by simp only; omega, by simp only [hE, addL]; simp [Sub, lk]⟩
        · (repeat (first | ((with_reducible refine rgn_cons rfl (fun K hK => ?_)); simp only [go_sem, seval, ↓reduceIte, decide_true, decide_false, show ¬ (j : Int) < ((d + 1 - i : Nat) : Int) by omega, decide_false, wid ((i : Int) + 1) (by omega) (by omega)]; (refine hK _ _ _ (by simp only [go_sem, Nat.reduceEqDiff, ↓reduceIte]; rfl) ?_); clear hK; clear K) | (with_reducible first | refine rgn_nil (by first | trivial | kernel_rfl) ?_ | refine AWP.seq ?_ | refine tX hC hP (by kernel_rfl) ?_ | refine aX hC hM hP (by kernel_rfl) ?_ | refine AWP.skip ?_ | refine AWP.label ?_ | refine AWP.exit ?_ | refine AWP.block ?_ | refine cTa ?_ | refine cFa ?_) | simp only [qS, Nat.reduceEqDiff, ↓reduceIte]))
          exact ⟨(i + 1, v), by simp only; omega, by simp only; omega, by simp [Sub, lk, putO, show j = d + 1 - i by omega]⟩
    · (repeat (first | ((with_reducible refine rgn_cons rfl (fun K hK => ?_)); simp only [go_sem, seval, ↓reduceIte, decide_true, decide_false, show ¬ (i : Int) < ((d + 1 : Nat) : Int) by omega, decide_false]; (refine hK _ _ _ (by simp only [go_sem, Nat.reduceEqDiff, ↓reduceIte]; rfl) ?_); clear hK; clear K) | (with_reducible first | refine rgn_nil (by first | trivial | kernel_rfl) ?_ | refine AWP.seq ?_ | refine tX hC hP (by kernel_rfl) ?_ | refine aX hC hM hP (by kernel_rfl) ?_ | refine AWP.skip ?_ | refine AWP.label ?_ | refine AWP.exit ?_ | refine AWP.block ?_ | refine cTa ?_ | refine cFa ?_) | simp only [qS, Nat.reduceEqDiff, ↓reduceIte]))
      (refine AWP.ret ?_; refine retOk1 (by simp only [go_sem, seval, ↓reduceIte, decide_true, decide_false]; rfl) ?_)
      rw [show i = d + 1 by omega]; rfl

end Go.Proofs.Ytahnnangdepkbaa
