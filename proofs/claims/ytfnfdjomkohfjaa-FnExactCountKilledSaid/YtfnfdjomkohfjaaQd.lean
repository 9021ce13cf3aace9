/-
  The opposite and the multiples of a curve.
-/
import Derived.Test.YtfnfdjomkohfjaaQc
namespace Go.Proofs.Ytfnfdjomkohfjaa
open Go.RowKit
set_option linter.unusedSimpArgs false
set_option linter.unusedVariables false
set_option linter.unusedSectionVars false
set_option maxRecDepth 20000
-- The opposite and the multiples of a curve.
/-- The series t. -/
def varL (d : Nat) : List Int := tab (d + 1) (fun j => if j = 1 then 1 else 0)
theorem varL_facts {m : Int} (hm : 1 < m) (d : Nat) : (varL d).length = d + 1 ∧ ∀ x ∈ varL d, 0 ≤ x ∧ x < m :=
  ⟨tab_length _ _, fun x hx => by obtain ⟨i, _, rfl⟩ := mem_tab.1 hx; split <;> omega⟩
theorem varL_set {d : Nat} (hd : 1 ≤ d) : (tab (d + 1) (fun _ => 0)).set 1 1 = varL d := tab_set' fun j hj => by simp
set_option maxHeartbeats 1000000 in
theorem c_impl_variable (m : Int) (d : Nat) (hd : 1 ≤ d) (hd2 : d ≤ 1000) : AFn Try.prog 79 [.int .i64 m, .int .i64 d] (.agg [.int .i64 m, .sl true 2 (intL (varL d))]) := by
  refine AFn.of' ttOk (by decide) Try.func79 Try.ntmps79 (by rw [Try.results79]) (by rfl) (by rfl) (by simp) (by decide) (by simp only [go_sem, Nat.reduceAdd, ↓reduceIte]; rfl) mixed (fun C hP hM hC => ?_)
  have h1 : 1 < (tab (d + 1) (fun _ => 0)).length := by rw [tab_length]; omega
  (repeat (first | ((with_reducible refine rgn_cons rfl (fun K hK => ?_)); simp only [go_sem, seval, ↓reduceIte, decide_true, decide_false, tab_length, show (0 : Int) ≤ 1 by decide, show (1 : Int).toNat = 1 from rfl, show (1 : Int) < ((d + 1 : Nat) : Int) by omega, intL_get _ _ h1, sizeL_take _ _ (Nat.le_of_lt h1), Nat.mul_one, intL_modify, varL_set hd]; (first | refine hK _ _ _ (by simp only [go_sem, Nat.reduceEqDiff, ↓reduceIte]; rfl) ?_ | refine ⟨_, c_impl_zero m (d : Int) (d + 1) (by omega) (by omega), hK _ _ _ (by simp only [go_sem, Nat.reduceEqDiff, ↓reduceIte]; rfl) ?_⟩); clear hK; clear K) | (with_reducible first | refine rgn_nil (by first | trivial | kernel_rfl) ?_ | refine AWP.seq ?_ | refine tX hC hP (by kernel_rfl) ?_ | refine aX hC hM hP (by kernel_rfl) ?_ | refine AWP.skip ?_ | refine AWP.label ?_ | refine AWP.exit ?_ | refine AWP.block ?_ | refine cTa ?_ | refine cFa ?_) | simp only [qS, Nat.reduceEqDiff, ↓reduceIte]))
  (refine AWP.ret ?_; refine retOk1 (by simp only [go_sem, seval, ↓reduceIte, decide_true, decide_false]; rfl) ?_)
  rfl
/-- The first terms of the inverse. -/
def opiS (m : Int) (t : Nat → Nat → Int) (d : Nat) : Nat → List Int
  | 0 => tab (d + 1) (fun _ => 0)
  | k + 1 => (opiS m t d k).set (k + 1) (-(at' (putL m t (varL d) (opiS m t d k) d) (k + 1)) % m)
theorem opiS_facts {m : Int} (hm : 0 < m) (t : Nat → Nat → Int) (d : Nat) : ∀ k, (opiS m t d k).length = d + 1 ∧ ∀ x ∈ opiS m t d k, 0 ≤ x ∧ x < m
  | 0 => ⟨tab_length _ _, fun x hx => by obtain ⟨i, _, rfl⟩ := mem_tab.1 hx; omega⟩
  | k + 1 => by
    have ih := opiS_facts hm t d k
    refine ⟨by rw [opiS, List.length_set]; exact ih.1, fun x hx => ?_⟩
    rcases List.mem_or_eq_of_mem_set hx with h | h
    · exact ih.2 x h
    · rw [h]; exact emod_b _ m hm
set_option maxHeartbeats 2000000 in
theorem c_impl_Plane_inverse (m : Int) (ll : List (List Int)) (d : Nat) (hm : 1 < m) (hm2 : m ≤ 10000) (hl : Pl m (d + 1) ll) (hd1 : 1 ≤ d) (hd : d ≤ 999) : AFn Try.prog 42 [.agg [.int .i64 m, .sl false 25 (rowsF ll)]] (.agg [.int .i64 m, .sl true 2 (intL (opiS m (pc ll) d d))]) := by
  refine AFn.of' ttOk (by decide) Try.func42 Try.ntmps42 (by rw [Try.results42]) (by rfl) (by rfl) (by simp) (by decide) (by simp only [go_sem, Nat.reduceAdd, ↓reduceIte]; rfl) mixed (fun C hP hM hC => ?_)
  have hD := c_impl_Plane_degree m ll (by have := hl.len; omega)
  rw [hl.len, show ((d + 1 : Nat) : Int) - 1 = (d : Int) by omega] at hD
  have hV := varL_facts hm d
  (repeat (first | ((with_reducible refine rgn_cons rfl (fun K hK => ?_)); simp only [go_sem, seval, ↓reduceIte, decide_true, decide_false]; (first | refine hK _ _ _ (by simp only [go_sem, Nat.reduceEqDiff, ↓reduceIte]; rfl) ?_ | refine ⟨_, hD, hK _ _ _ (by simp only [go_sem, Nat.reduceEqDiff, ↓reduceIte]; rfl) ?_⟩ | refine ⟨_, c_impl_variable m d hd1 (by omega), hK _ _ _ (by simp only [go_sem, Nat.reduceEqDiff, ↓reduceIte]; rfl) ?_⟩ | refine ⟨_, c_impl_zero m (d : Int) (d + 1) (by omega) (by omega), hK _ _ _ (by simp only [go_sem, Nat.reduceEqDiff, ↓reduceIte]; rfl) ?_⟩); clear hK; clear K) | (with_reducible first | refine rgn_nil (by first | trivial | kernel_rfl) ?_ | refine AWP.seq ?_ | refine tX hC hP (by kernel_rfl) ?_ | refine aX hC hM hP (by kernel_rfl) ?_ | refine AWP.skip ?_ | refine AWP.label ?_ | refine AWP.exit ?_ | refine AWP.block ?_ | refine cTa ?_ | refine cFa ?_) | simp only [qS, Nat.reduceEqDiff, ↓reduceIte]))
  refine AWP.loop (fun w : Nat × Nat => [(5, ⟨0, .val (.int .i64 ((w.1 : Int) + 1))⟩), (4, ⟨w.2, .own (.box 43 (.agg [.int .i64 m, .sl true 2 (intL (opiS m (pc ll) d w.1))]))⟩), (3, ⟨2, .own (.box 43 (.agg [.int .i64 m, .sl true 2 (intL (varL d))]))⟩), (1, ⟨1, .own (.box 29 (.agg [.int .i64 m, .sl false 25 (rowsF ll)]))⟩), (2, ⟨1, .own (.box 43 (.agg [.int .i64 0, .nil]))⟩)]) (fun w => w.1 ≤ d) (fun w => d - w.1) (0, 2) (Nat.zero_le _) (fun i => rfl) ?_ (fun w hw => ?_)
  · simp [Sub, lk, opiS]
  · obtain ⟨i, v⟩ := w
    simp only at hw ⊢
    have hS := opiS_facts (m := m) (by omega) (pc ll) d i
    by_cases hi : i < d
    · have hP1 := putL_facts (m := m) (by omega) (pc ll) (varL d) (opiS m (pc ll) d i) d
      have hb := at_bound hP1.2 (by omega) (i + 1)
      have k1 : i + 1 < (putL m (pc ll) (varL d) (opiS m (pc ll) d i) d).length := by omega
      have k2 : i + 1 < (opiS m (pc ll) d i).length := by omega
      have hC1 := c_impl_Plane_curves m ll (varL d) (opiS m (pc ll) d i) d hm hm2 hl hV.2 hV.1 hS.2 hS.1 hd
      have hM1 := c_impl_mod (-(at' (putL m (pc ll) (varL d) (opiS m (pc ll) d i) d) (i + 1))) m (by omega) (by omega)
      (repeat (first | ((with_reducible refine rgn_cons rfl (fun K hK => ?_)); simp only [go_sem, seval, ↓reduceIte, decide_true, decide_false, show (i : Int) + 1 ≤ (d : Int) by omega, decide_true, show (0 : Int) ≤ (i : Int) + 1 by omega, show ((i : Int) + 1).toNat = i + 1 by omega, hP1.1, hS.1, show (i : Int) + 1 < ((d + 1 : Nat) : Int) by omega, intL_get _ _ k1, intL_get _ _ k2, sizeL_take _ _ (Nat.le_of_lt k1), sizeL_take _ _ (Nat.le_of_lt k2), Nat.mul_one, show (putL m (pc ll) (varL d) (opiS m (pc ll) d i) d).getD (i + 1) 0 = at' (putL m (pc ll) (varL d) (opiS m (pc ll) d i) d) (i + 1) from rfl, wid (-(at' (putL m (pc ll) (varL d) (opiS m (pc ll) d i) d) (i + 1))) (by omega) (by omega), Int.zero_sub, intL_modify, wid ((i : Int) + 1 + 1) (by omega) (by omega)]; (first | refine hK _ _ _ (by simp only [go_sem, Nat.reduceEqDiff, ↓reduceIte]; rfl) ?_ | refine ⟨_, hD, hK _ _ _ (by simp only [go_sem, Nat.reduceEqDiff, ↓reduceIte]; rfl) ?_⟩ | refine ⟨_, hC1, hK _ _ _ (by simp only [go_sem, Nat.reduceEqDiff, ↓reduceIte]; rfl) ?_⟩ | refine ⟨_, hM1, hK _ _ _ (by simp only [go_sem, Nat.reduceEqDiff, ↓reduceIte]; rfl) ?_⟩); clear hK; clear K) | (with_reducible first | refine rgn_nil (by first | trivial | kernel_rfl) ?_ | refine AWP.seq ?_ | refine tX hC hP (by kernel_rfl) ?_ | refine aX hC hM hP (by kernel_rfl) ?_ | refine AWP.skip ?_ | refine AWP.label ?_ | refine AWP.exit ?_ | refine AWP.block ?_ | refine cTa ?_ | refine cFa ?_) | simp only [qS, Nat.reduceEqDiff, ↓reduceIte]))
      exact ⟨(i + 1, v), by simp only; omega, by simp only; omega, by simp [Sub, lk, opiS]⟩
    · (repeat (first | ((with_reducible refine rgn_cons rfl (fun K hK => ?_)); simp only [go_sem, seval, ↓reduceIte, decide_true, decide_false, show ¬ (i : Int) + 1 ≤ (d : Int) by omega, decide_false]; (first | refine hK _ _ _ (by simp only [go_sem, Nat.reduceEqDiff, ↓reduceIte]; rfl) ?_ | refine ⟨_, hD, hK _ _ _ (by simp only [go_sem, Nat.reduceEqDiff, ↓reduceIte]; rfl) ?_⟩); clear hK; clear K) | (with_reducible first | refine rgn_nil (by first | trivial | kernel_rfl) ?_ | refine AWP.seq ?_ | refine tX hC hP (by kernel_rfl) ?_ | refine aX hC hM hP (by kernel_rfl) ?_ | refine AWP.skip ?_ | refine AWP.label ?_ | refine AWP.exit ?_ | refine AWP.block ?_ | refine cTa ?_ | refine cFa ?_) | simp only [qS, Nat.reduceEqDiff, ↓reduceIte]))
      (refine AWP.ret ?_; refine retOk1 (by simp only [go_sem, seval, ↓reduceIte, decide_true, decide_false]; rfl) ?_)
      rw [show i = d by omega]
/-- Multiples: an accumulator, a curve, and a number. -/
def muL (m : Int) (t : Nat → Nat → Int) (d : Nat) (o b : List Int) (k : Nat) : List Int :=
  if h : k = 0 then o else muL m t d (if k % 2 = 1 then putL m t o b d else o) (putL m t b b d) (k / 2)
  termination_by k
  decreasing_by omega
theorem muL_zero {m : Int} {t : Nat → Nat → Int} {d : Nat} {o b : List Int} : muL m t d o b 0 = o := by rw [muL, dif_pos rfl]
theorem muL_odd {m : Int} {t : Nat → Nat → Int} {d : Nat} {o b : List Int} {k : Nat} (h : k % 2 = 1) : muL m t d o b k = muL m t d (putL m t o b d) (putL m t b b d) (k / 2) := by
  rw [muL, dif_neg (by omega), if_pos h]
theorem muL_even {m : Int} {t : Nat → Nat → Int} {d : Nat} {o b : List Int} {k : Nat} (h0 : 0 < k) (h : k % 2 = 0) : muL m t d o b k = muL m t d o (putL m t b b d) (k / 2) := by
  rw [muL, dif_neg (by omega), if_neg (by omega)]
theorem muL_facts {m : Int} {t : Nat → Nat → Int} {d : Nat} (hm : 0 < m) (k : Nat) : ∀ {o b : List Int}, o.length = d + 1 → (∀ x ∈ o, 0 ≤ x ∧ x < m) → (muL m t d o b k).length = d + 1 ∧ ∀ x ∈ muL m t d o b k, 0 ≤ x ∧ x < m := by
  induction k using Nat.strongRecOn with
  | _ k ih =>
    intro o b h1 h2
    rcases Nat.eq_zero_or_pos k with e | e
    · subst e; rw [muL_zero]; exact ⟨h1, h2⟩
    · by_cases h : k % 2 = 1
      · rw [muL_odd h]; exact ih _ (by omega) (putL_facts hm _ _ _ _).1 (putL_facts hm _ _ _ _).2
      · rw [muL_even e (by omega)]; exact ih _ (by omega) h1 h2
def zrL (d : Nat) : List Int := tab (d + 1) (fun _ => 0)
theorem zrL_facts {m : Int} (hm : 0 < m) (d : Nat) : (zrL d).length = d + 1 ∧ ∀ x ∈ zrL d, 0 ≤ x ∧ x < m :=
  ⟨tab_length _ _, fun x hx => by obtain ⟨i, _, rfl⟩ := mem_tab.1 hx; omega⟩
def opL (m : Int) (t : Nat → Nat → Int) (d : Nat) (a : List Int) : List Int := cmpL m (opiS m t d d) a d (d + 1)
theorem opL_facts {m : Int} (hm : 0 < m) (t : Nat → Nat → Int) (d : Nat) (a : List Int) : (opL m t d a).length = d + 1 ∧ ∀ x ∈ opL m t d a, 0 ≤ x ∧ x < m := ⟨cmpL_length _ _ _ _ _, cmpL_num hm _ _ _ _⟩
/-- Multiples by integers. -/
def mzL (m : Int) (t : Nat → Nat → Int) (d : Nat) (a : List Int) (n : Int) : List Int := if n < 0 then opL m t d (muL m t d (zrL d) a (-n).toNat) else muL m t d (zrL d) a n.toNat
theorem mzL_facts {m : Int} (hm : 0 < m) (t : Nat → Nat → Int) (d : Nat) (a : List Int) (n : Int) : (mzL m t d a n).length = d + 1 ∧ ∀ x ∈ mzL m t d a n, 0 ≤ x ∧ x < m := by
  unfold mzL
  split
  · exact opL_facts hm _ _ _
  · exact muL_facts hm _ (zrL_facts hm d).1 (zrL_facts hm d).2
set_option maxHeartbeats 1000000 in
theorem c_impl_Plane_opposite (m : Int) (ll : List (List Int)) (la : List Int) (d : Nat) (hm : 1 < m) (hm2 : m ≤ 10000) (hl : Pl m (d + 1) ll) (hd1 : 1 ≤ d) (hd : d ≤ 999) (ha : ∀ x ∈ la, 0 ≤ x ∧ x < m) (hla : la.length = d + 1) : AFn Try.prog 136 [.agg [.int .i64 m, .sl false 25 (rowsF ll)], .agg [.int .i64 m, .sl false 2 (intL la)]] (.agg [.int .i64 m, .sl true 2 (intL (opL m (pc ll) d la))]) := by
  refine AFn.of' ttOk (by decide) Try.func136 Try.ntmps136 (by rw [Try.results136]) (by rfl) (by rfl) (by simp) (by decide) (by simp only [go_sem, Nat.reduceAdd, ↓reduceIte]; rfl) mixed (fun C hP hM hC => ?_)
  have hO := opiS_facts (m := m) (by omega) (pc ll) d d
  (repeat (first | ((with_reducible refine rgn_cons rfl (fun K hK => ?_)); simp only [go_sem, seval, ↓reduceIte, decide_true, decide_false]; (first | refine hK _ _ _ (by simp only [go_sem, Nat.reduceEqDiff, ↓reduceIte]; rfl) ?_ | refine ⟨_, c_impl_Plane_inverse m ll d hm hm2 hl hd1 hd, hK _ _ _ (by simp only [go_sem, Nat.reduceEqDiff, ↓reduceIte]; rfl) ?_⟩ | refine ⟨_, c_impl_Series_compose m (opiS m (pc ll) d d) la d hm hm2 hO.2 ha hO.1 hla (by omega), hK _ _ _ (by simp only [go_sem, Nat.reduceEqDiff, ↓reduceIte]; rfl) ?_⟩); clear hK; clear K) | (with_reducible first | refine rgn_nil (by first | trivial | kernel_rfl) ?_ | refine AWP.seq ?_ | refine tX hC hP (by kernel_rfl) ?_ | refine aX hC hM hP (by kernel_rfl) ?_ | refine AWP.skip ?_ | refine AWP.label ?_ | refine AWP.exit ?_ | refine AWP.block ?_ | refine cTa ?_ | refine cFa ?_) | simp only [qS, Nat.reduceEqDiff, ↓reduceIte]))
  (refine AWP.ret ?_; refine retOk1 (by simp only [go_sem, seval, ↓reduceIte, decide_true, decide_false]; rfl) ?_)
  rfl
set_option maxHeartbeats 4000000 in
theorem c_impl_Plane_multiple_pos (m : Int) (ll : List (List Int)) (la : List Int) (k d : Nat) (hm : 1 < m) (hm2 : m ≤ 10000) (hl : Pl m (d + 1) ll) (hd1 : 1 ≤ d) (hd : d ≤ 999) (ha : ∀ x ∈ la, 0 ≤ x ∧ x < m) (hla : la.length = d + 1) (hk : k ≤ 1000000000000) : AFn Try.prog 115 [.agg [.int .i64 m, .sl false 25 (rowsF ll)], .int .i64 k, .agg [.int .i64 m, .sl false 2 (intL la)]] (.agg [.int .i64 m, .sl true 2 (intL (muL m (pc ll) d (zrL d) la k))]) := by
  refine AFn.of' ttOk (by decide) Try.func115 Try.ntmps115 (by rw [Try.results115]) (by rfl) (by rfl) (by simp) (by decide) (by simp only [go_sem, Nat.reduceAdd, ↓reduceIte]; rfl) mixed (fun C hP hM hC => ?_)
  have hD := c_impl_Plane_degree m ll (by have := hl.len; omega)
  rw [hl.len, show ((d + 1 : Nat) : Int) - 1 = (d : Int) by omega] at hD
  have hz := zrL_facts (m := m) (by omega) d
  (repeat (first | ((with_reducible refine rgn_cons rfl (fun K hK => ?_)); simp only [go_sem, seval, ↓reduceIte, decide_true, decide_false, show ¬ ((k : Int) < 0) by omega, decide_false]; (first | refine hK _ _ _ (by simp only [go_sem, Nat.reduceEqDiff, ↓reduceIte]; rfl) ?_ | refine ⟨_, hD, hK _ _ _ (by simp only [go_sem, Nat.reduceEqDiff, ↓reduceIte]; rfl) ?_⟩ | refine ⟨_, c_impl_zero m (d : Int) (d + 1) (by omega) (by omega), hK _ _ _ (by simp only [go_sem, Nat.reduceEqDiff, ↓reduceIte]; rfl) ?_⟩); clear hK; clear K) | (with_reducible first | refine rgn_nil (by first | trivial | kernel_rfl) ?_ | refine AWP.seq ?_ | refine tX hC hP (by kernel_rfl) ?_ | refine aX hC hM hP (by kernel_rfl) ?_ | refine AWP.skip ?_ | refine AWP.label ?_ | refine AWP.exit ?_ | refine AWP.block ?_ | refine cTa ?_ | refine cFa ?_) | simp only [qS, Nat.reduceEqDiff, ↓reduceIte]))
  refine AWP.loop (fun w : Nat × List Int × List Int × Nat × Option Nat => match w with
    | (j, o, b, v5, none) => [(1, ⟨0, .val (.int .i64 j)⟩), (7, ⟨v5, .own (.box 43 (.agg [.int .i64 m, .sl true 2 (intL o)]))⟩), (5, ⟨1, .own (.box 43 (.agg [.int .i64 m, .sl false 2 (intL b)]))⟩), (3, ⟨1, .own (.box 29 (.agg [.int .i64 m, .sl false 25 (rowsF ll)]))⟩), (6, ⟨1, .own (.box 43 (.agg [.int .i64 0, .nil]))⟩)]
    | (j, o, b, v5, some v2) => [(1, ⟨0, .val (.int .i64 j)⟩), (7, ⟨v5, .own (.box 43 (.agg [.int .i64 m, .sl true 2 (intL o)]))⟩), (5, ⟨v2, .own (.box 43 (.agg [.int .i64 m, .sl true 2 (intL b)]))⟩), (3, ⟨1, .own (.box 29 (.agg [.int .i64 m, .sl false 25 (rowsF ll)]))⟩), (6, ⟨1, .own (.box 43 (.agg [.int .i64 0, .nil]))⟩)]) (fun w => w.1 ≤ k ∧ (w.2.1.length = d + 1 ∧ ∀ x ∈ w.2.1, 0 ≤ x ∧ x < m) ∧ (w.2.2.1.length = d + 1 ∧ ∀ x ∈ w.2.2.1, 0 ≤ x ∧ x < m) ∧ muL m (pc ll) d w.2.1 w.2.2.1 w.1 = muL m (pc ll) d (zrL d) la k) (fun w => w.1) (k, zrL d, la, 2, none) ⟨Nat.le_refl _, hz, ⟨hla, ha⟩, rfl⟩ (fun w => by obtain ⟨_, _, _, _, x⟩ := w; cases x <;> rfl) ?_ (fun w hw => ?_)
  · simp [Sub, lk, zrL]
  · obtain ⟨j, o, b, v5, v2⟩ := w
    simp only at hw
    obtain ⟨hj, ho, hb, hE⟩ := hw
    have hT1 := c_impl_Plane_curves m ll o b d hm hm2 hl ho.2 ho.1 hb.2 hb.1 hd
    have hT2 := c_impl_Plane_curves m ll b b d hm hm2 hl hb.2 hb.1 hb.2 hb.1 hd
    cases v2 with
    | none =>
      simp only
      by_cases hs : 0 < j
      · have hs' : (0 : Int) < (j : Int) := by omega
        by_cases ho2 : j % 2 = 1
        · (repeat (first | ((with_reducible refine rgn_cons rfl (fun K hK => ?_)); simp only [go_sem, seval, ↓reduceIte, decide_true, decide_false, hs', nat_tmod2, nat_tdiv2, ho2, Int.cast_ofNat_Int, show (2 : Int) ≠ 0 by omega, wid ((j / 2 : Nat) : Int) (by omega) (by omega)]; (first | refine hK _ _ _ (by simp only [go_sem, Nat.reduceEqDiff, ↓reduceIte]; rfl) ?_ | refine ⟨_, hT1, hK _ _ _ (by simp only [go_sem, Nat.reduceEqDiff, ↓reduceIte]; rfl) ?_⟩ | refine ⟨_, hT2, hK _ _ _ (by simp only [go_sem, Nat.reduceEqDiff, ↓reduceIte]; rfl) ?_⟩); clear hK; clear K) | (with_reducible first | refine rgn_nil (by first | trivial | kernel_rfl) ?_ | refine AWP.seq ?_ | refine tX hC hP (by kernel_rfl) ?_ | refine aX hC hM hP (by kernel_rfl) ?_ | refine AWP.skip ?_ | refine AWP.label ?_ | refine AWP.exit ?_ | refine AWP.block ?_ | refine cTa ?_ | refine cFa ?_) | simp only [qS, Nat.reduceEqDiff, ↓reduceIte]))
          exact ⟨(j / 2, putL m (pc ll) o b d, putL m (pc ll) b b d, v5 + 1, some 2), ⟨by simp only; omega, putL_facts (by omega) _ _ _ _, putL_facts (by omega) _ _ _ _, by rw [← hE]; exact (muL_odd ho2).symm⟩, by simp only; omega, by simp [Sub, lk]⟩
        · have ho3 : j % 2 = 0 := by omega
          (repeat (first | ((with_reducible refine rgn_cons rfl (fun K hK => ?_)); simp only [go_sem, seval, ↓reduceIte, decide_true, decide_false, hs', nat_tmod2, nat_tdiv2, ho3, Int.cast_ofNat_Int, Int.natCast_zero, show (2 : Int) ≠ 0 by omega, wid ((j / 2 : Nat) : Int) (by omega) (by omega)]; (first | refine hK _ _ _ (by simp only [go_sem, Nat.reduceEqDiff, ↓reduceIte]; rfl) ?_ | refine ⟨_, hT2, hK _ _ _ (by simp only [go_sem, Nat.reduceEqDiff, ↓reduceIte]; rfl) ?_⟩); clear hK; clear K) | (with_reducible first | refine rgn_nil (by first | trivial | kernel_rfl) ?_ | refine AWP.seq ?_ | refine tX hC hP (by kernel_rfl) ?_ | refine aX hC hM hP (by kernel_rfl) ?_ | refine AWP.skip ?_ | refine AWP.label ?_ | refine AWP.exit ?_ | refine AWP.block ?_ | refine cTa ?_ | refine cFa ?_) | simp only [qS, Nat.reduceEqDiff, ↓reduceIte]))
          exact ⟨(j / 2, o, putL m (pc ll) b b d, v5, some 2), ⟨by simp only; omega, ho, putL_facts (by omega) _ _ _ _, by rw [← hE]; exact (muL_even hs ho3).symm⟩, by simp only; omega, by simp [Sub, lk]⟩
      · have hj0 : j = 0 := by omega
        subst hj0
        (repeat (first | ((with_reducible refine rgn_cons rfl (fun K hK => ?_)); simp only [go_sem, seval, ↓reduceIte, decide_true, decide_false, show ¬ (0 : Int) < ((0 : Nat) : Int) by omega, Int.natCast_zero, decide_false]; (refine hK _ _ _ (by simp only [go_sem, Nat.reduceEqDiff, ↓reduceIte]; rfl) ?_); clear hK; clear K) | (with_reducible first | refine rgn_nil (by first | trivial | kernel_rfl) ?_ | refine AWP.seq ?_ | refine tX hC hP (by kernel_rfl) ?_ | refine aX hC hM hP (by kernel_rfl) ?_ | refine AWP.skip ?_ | refine AWP.label ?_ | refine AWP.exit ?_ | refine AWP.block ?_ | refine cTa ?_ | refine cFa ?_) | simp only [qS, Nat.reduceEqDiff, ↓reduceIte]))
        (refine AWP.ret ?_; refine retOk1 (by simp only [go_sem, seval, ↓reduceIte, decide_true, decide_false]; rfl) ?_)
        rw [← hE, muL_zero]
    | some v2 =>
      simp only
      by_cases hs : 0 < j
      · have hs' : (0 : Int) < (j : Int) := by omega
        by_cases ho2 : j % 2 = 1
        · (repeat (first | ((with_reducible refine rgn_cons rfl (fun K hK => ?_)); simp only [go_sem, seval, ↓reduceIte, decide_true, decide_false, hs', nat_tmod2, nat_tdiv2, ho2, Int.cast_ofNat_Int, show (2 : Int) ≠ 0 by omega, wid ((j / 2 : Nat) : Int) (by omega) (by omega)]; (first | refine hK _ _ _ (by simp only [go_sem, Nat.reduceEqDiff, ↓reduceIte]; rfl) ?_ | refine ⟨_, hT1, hK _ _ _ (by simp only [go_sem, Nat.reduceEqDiff, ↓reduceIte]; rfl) ?_⟩ | refine ⟨_, hT2, hK _ _ _ (by simp only [go_sem, Nat.reduceEqDiff, ↓reduceIte]; rfl) ?_⟩); clear hK; clear K) | (with_reducible first | refine rgn_nil (by first | trivial | kernel_rfl) ?_ | refine AWP.seq ?_ | refine tX hC hP (by kernel_rfl) ?_ | refine aX hC hM hP (by kernel_rfl) ?_ | refine AWP.skip ?_ | refine AWP.label ?_ | refine AWP.exit ?_ | refine AWP.block ?_ | refine cTa ?_ | refine cFa ?_) | simp only [qS, Nat.reduceEqDiff, ↓reduceIte]))
          exact ⟨(j / 2, putL m (pc ll) o b d, putL m (pc ll) b b d, v5 + 1, some (v2 + 1)), ⟨by simp only; omega, putL_facts (by omega) _ _ _ _, putL_facts (by omega) _ _ _ _, by rw [← hE]; exact (muL_odd ho2).symm⟩, by simp only; omega, by simp [Sub, lk]⟩
        · have ho3 : j % 2 = 0 := by omega
          (repeat (first | ((with_reducible refine rgn_cons rfl (fun K hK => ?_)); simp only [go_sem, seval, ↓reduceIte, decide_true, decide_false, hs', nat_tmod2, nat_tdiv2, ho3, Int.cast_ofNat_Int, Int.natCast_zero, show (2 : Int) ≠ 0 by omega, wid ((j / 2 : Nat) : Int) (by omega) (by omega)]; (first | refine hK _ _ _ (by simp only [go_sem, Nat.reduceEqDiff, ↓reduceIte]; rfl) ?_ | refine ⟨_, hT2, hK _ _ _ (by simp only [go_sem, Nat.reduceEqDiff, ↓reduceIte]; rfl) ?_⟩); clear hK; clear K) | (with_reducible first | refine rgn_nil (by first | trivial | kernel_rfl) ?_ | refine AWP.seq ?_ | refine tX hC hP (by kernel_rfl) ?_ | refine aX hC hM hP (by kernel_rfl) ?_ | refine AWP.skip ?_ | refine AWP.label ?_ | refine AWP.exit ?_ | refine AWP.block ?_ | refine cTa ?_ | refine cFa ?_) | simp only [qS, Nat.reduceEqDiff, ↓reduceIte]))
          exact ⟨(j / 2, o, putL m (pc ll) b b d, v5, some (v2 + 1)), ⟨by simp only; omega, ho, putL_facts (by omega) _ _ _ _, by rw [← hE]; exact (muL_even hs ho3).symm⟩, by simp only; omega, by simp [Sub, lk]⟩
      · have hj0 : j = 0 := by omega
        subst hj0
        (repeat (first | ((with_reducible refine rgn_cons rfl (fun K hK => ?_)); simp only [go_sem, seval, ↓reduceIte, decide_true, decide_false, show ¬ (0 : Int) < ((0 : Nat) : Int) by omega, Int.natCast_zero, decide_false]; (refine hK _ _ _ (by simp only [go_sem, Nat.reduceEqDiff, ↓reduceIte]; rfl) ?_); clear hK; clear K) | (with_reducible first | refine rgn_nil (by first | trivial | kernel_rfl) ?_ | refine AWP.seq ?_ | refine tX hC hP (by kernel_rfl) ?_ | refine aX hC hM hP (by kernel_rfl) ?_ | refine AWP.skip ?_ | refine AWP.label ?_ | refine AWP.exit ?_ | refine AWP.block ?_ | refine cTa ?_ | refine cFa ?_) | simp only [qS, Nat.reduceEqDiff, ↓reduceIte]))
        (refine AWP.ret ?_; refine retOk1 (by simp only [go_sem, seval, ↓reduceIte, decide_true, decide_false]; rfl) ?_)
        rw [← hE, muL_zero]
set_option maxHeartbeats 1000000 in
theorem c_impl_Plane_multiple_neg (m n : Int) (ll : List (List Int)) (la : List Int) (d : Nat) (hm : 1 < m) (hm2 : m ≤ 10000) (hl : Pl m (d + 1) ll) (hd1 : 1 ≤ d) (hd : d ≤ 999) (ha : ∀ x ∈ la, 0 ≤ x ∧ x < m) (hla : la.length = d + 1) (hn : -1000000000000 ≤ n) (hn2 : n ≤ 1000000000000) (h : n < 0) : AFn Try.prog 115 [.agg [.int .i64 m, .sl false 25 (rowsF ll)], .int .i64 n, .agg [.int .i64 m, .sl false 2 (intL la)]] (.agg [.int .i64 m, .sl true 2 (intL (mzL m (pc ll) d la n))]) := by
  refine AFn.of' ttOk (by decide) Try.func115 Try.ntmps115 (by rw [Try.results115]) (by rfl) (by rfl) (by simp) (by decide) (by simp only [go_sem, Nat.reduceAdd, ↓reduceIte]; rfl) mixed (fun C hP hM hC => ?_)
  have e : mzL m (pc ll) d la n = opL m (pc ll) d (muL m (pc ll) d (zrL d) la (-n).toNat) := if_pos h
  have hz := zrL_facts (m := m) (by omega) d
  have hf := muL_facts (m := m) (t := pc ll) (b := la) (by omega) (-n).toNat hz.1 hz.2
  have hM1 := c_impl_Plane_multiple_pos m ll la (-n).toNat d hm hm2 hl hd1 hd ha hla (by omega)
  rw [show (((-n).toNat : Nat) : Int) = -n by omega] at hM1
  (repeat (first | ((with_reducible refine rgn_cons rfl (fun K hK => ?_)); simp only [go_sem, seval, ↓reduceIte, decide_true, decide_false, h, decide_true, Int.zero_sub, wid (-n) (by omega) (by omega)]; (first | refine hK _ _ _ (by simp only [go_sem, Nat.reduceEqDiff, ↓reduceIte]; rfl) ?_ | refine ⟨_, hM1, hK _ _ _ (by simp only [go_sem, Nat.reduceEqDiff, ↓reduceIte]; rfl) ?_⟩ | refine ⟨_, c_impl_Plane_opposite m ll (muL m (pc ll) d (zrL d) la (-n).toNat) d hm hm2 hl hd1 hd hf.2 hf.1, hK _ _ _ (by simp only [go_sem, Nat.reduceEqDiff, ↓reduceIte]; rfl) ?_⟩); clear hK; clear K) | (with_reducible first | refine rgn_nil (by first | trivial | kernel_rfl) ?_ | refine AWP.seq ?_ | refine tX hC hP (by kernel_rfl) ?_ | refine aX hC hM hP (by kernel_rfl) ?_ | refine AWP.skip ?_ | refine AWP.label ?_ | refine AWP.exit ?_ | refine AWP.block ?_ | refine cTa ?_ | refine cFa ?_) | simp only [qS, Nat.reduceEqDiff, ↓reduceIte]))
  (refine AWP.ret ?_; refine retOk1 (by simp only [go_sem, seval, ↓reduceIte, decide_true, decide_false]; rfl) ?_)
  rw [e]
theorem c_impl_Plane_multiple (m n : Int) (ll : List (List Int)) (la : List Int) (d : Nat) (hm : 1 < m) (hm2 : m ≤ 10000) (hl : Pl m (d + 1) ll) (hd1 : 1 ≤ d) (hd : d ≤ 999) (ha : ∀ x ∈ la, 0 ≤ x ∧ x < m) (hla : la.length = d + 1) (hn : -1000000000000 ≤ n) (hn2 : n ≤ 1000000000000) : AFn Try.prog 115 [.agg [.int .i64 m, .sl false 25 (rowsF ll)], .int .i64 n, .agg [.int .i64 m, .sl false 2 (intL la)]] (.agg [.int .i64 m, .sl true 2 (intL (mzL m (pc ll) d la n))]) := by
  by_cases h : n < 0
  · exact c_impl_Plane_multiple_neg m n ll la d hm hm2 hl hd1 hd ha hla hn hn2 h
  · have e : mzL m (pc ll) d la n = muL m (pc ll) d (zrL d) la n.toNat := if_neg h
    have hM1 := c_impl_Plane_multiple_pos m ll la n.toNat d hm hm2 hl hd1 hd ha hla (by omega)
    rw [show ((n.toNat : Nat) : Int) = n by omega] at hM1
    rw [e]
    exact hM1
end Go.Proofs.Ytfnfdjomkohfjaa
