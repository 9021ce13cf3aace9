/-
  Multiples of points.
-/
import Derived.Test.YtamdpfnmclkljaaRb
namespace Go.Proofs.Ytamdpfnmclkljaa
open Go.RowKit
set_option linter.unusedSimpArgs false
set_option linter.unusedVariables false
set_option linter.unusedSectionVars false
set_option maxRecDepth 20000
-- Multiples of points.
theorem intL_drop (l : List Int) (k : Nat) : (intL l).drop k = intL (l.drop k) := by simp [intL]
theorem c_impl_curveOf (m : Int) (x : List Int) (hx : x.length ≤ 1000000000) : AFn Try.prog 102 [.int .i64 m, .sl false 2 (intL x)] (.agg [.int .i64 m, .sl true 2 (intL (0 :: x))]) := by
  refine AFn.of' ttOk (by decide) Try.func102 Try.ntmps102 (by rw [Try.results102]) (by rfl) (by rfl) (by simp) (by decide) (by simp only [go_sem, Nat.reduceAdd, ↓reduceIte]; rfl) mixed (fun C hP hM hC => ?_)
  (repeat (first | ((with_reducible refine rgn_cons rfl (fun K hK => ?_)); simp only [go_sem, seval, ↓reduceIte, decide_true, decide_false, intL_plain, show 1 + x.length ≤ 1099511627776 by omega, show (1 + x.length) * 8 ≤ 140737488355328 by omega, List.length_cons, List.length_nil, Nat.zero_add, List.cons_append, List.nil_append, show T.int .i64 0 :: intL x = intL (0 :: x) from rfl]; (refine hK _ _ _ (by simp only [go_sem, Nat.reduceEqDiff, ↓reduceIte]; rfl) ?_); clear hK; clear K) | (with_reducible first | refine rgn_nil (by first | trivial | kernel_rfl) ?_ | refine AWP.seq ?_ | refine tX hC hP (by kernel_rfl) ?_ | refine aX hC hM hP (by kernel_rfl) ?_ | refine AWP.skip ?_ | refine AWP.label ?_ | refine AWP.exit ?_ | refine AWP.block ?_ | refine cT (by simp only [go_sem, Nat.reduceEqDiff, ↓reduceIte]; with_reducible rfl) ?_ | refine cF (by simp only [go_sem, Nat.reduceEqDiff, ↓reduceIte]; with_reducible rfl) ?_) | simp only [qS, Nat.reduceEqDiff, ↓reduceIte]))
  (refine AWP.ret ?_; first | refine retOk1 (by simp only [go_sem, seval, ↓reduceIte, decide_true, decide_false]; rfl) ?_ | refine retOk2 (by simp only [go_sem, seval, ↓reduceIte, decide_true, decide_false]; rfl) (by simp only [go_sem, seval, ↓reduceIte, decide_true, decide_false]; rfl) (by simp) ?_ | refine retOk3 (by simp only [go_sem, seval, ↓reduceIte, decide_true, decide_false]; rfl) (by simp only [go_sem, seval, ↓reduceIte, decide_true, decide_false]; rfl) (by simp only [go_sem, seval, ↓reduceIte, decide_true, decide_false]; rfl) (by simp) ?_)
  rfl
theorem intL_scalars (l : List Int) : ∀ t ∈ intL l, t.scalar = true := fun t ht => by
  simp only [intL, List.mem_map] at ht
  obtain ⟨x, _, rfl⟩ := ht
  rfl
theorem c_spec_l16Multiple (m n : Int) (ll : List (List Int)) (x : List Int) (d : Nat) (hm : 1 < m) (hm2 : m ≤ 10000) (hl : Pl m (d + 1) ll) (hd1 : 1 ≤ d) (hd : d ≤ 999) (ha : ∀ y ∈ x, 0 ≤ y ∧ y < m) (hx : x.length = d) (hn : -1000000000000 ≤ n) (hn2 : n ≤ 1000000000000) : AFn Try.prog (2000000 + 103) [.agg [.int .i64 m, .sl false 26 (rowsF ll)], .int .i64 n, .sl false 2 (intL x)] (.tup [.int .i64 (1 : Nat), .sl true 2 (intL (mzL m (pc ll) d (0 :: x) n))]) := by
  have ha0 : ∀ y ∈ (0 :: x), 0 ≤ y ∧ y < m := fun y hy => by
    rcases List.mem_cons.1 hy with e | e
    · omega
    · exact ha y e
  have hW := c_spec_l04Multiple m n ll (0 :: x) d hm hm2 hl hd1 hd ha0 (by simp [hx]) hn hn2
  have f := mzL_facts (m := m) (by omega) (pc ll) d (0 :: x) n
  generalize mzL m (pc ll) d (0 :: x) n = P at *
  have hlen := f.1
  refine AFn_w.2 (AFw.of' (t := 6) (s := 12) ttOk Try.func103 Try.ntmps103 (by rw [Try.results103]) (by rfl) (by rfl) (by simp) (by decide) (by simp [T.pureL, T.pure, rowsF_pure, intL_pure]) (by rw [intL_length]; omega) (by kernel_rfl) (intL_scalars P) (by simp only [go_sem, Nat.reduceAdd, ↓reduceIte]; rfl) mixed (fun C hP hM hC => ?_))
  (repeat (first | ((with_reducible refine rgn_cons rfl (fun K hK => ?_)); simp only [go_sem, seval, ↓reduceIte, decide_true, decide_false, intL_plain, show 1 + x.length ≤ 1099511627776 by omega, show (1 + x.length) * 8 ≤ 140737488355328 by omega, List.length_cons, List.length_nil, Nat.zero_add, List.cons_append, List.nil_append, show T.int .i64 0 :: intL x = intL (0 :: x) from rfl, show (0 : Int) ≤ 1 by decide, show (1 : Int) < (P.length : Int) by omega, show (1 : Int).toNat = 1 from rfl, Option.isNone_none, Bool.and_self]; (first | refine hK _ _ _ (by simp only [go_sem, Nat.reduceEqDiff, ↓reduceIte]; rfl) ?_ | refine ⟨_, hW, hK _ _ _ (by simp only [go_sem, Nat.reduceEqDiff, ↓reduceIte]; rfl) ?_⟩); clear hK; clear K) | (with_reducible first | refine rgn_nil (by first | trivial | kernel_rfl) ?_ | refine AWP.seq ?_ | refine tX hC hP (by kernel_rfl) ?_ | refine aX hC hM hP (by kernel_rfl) ?_ | refine AWP.skip ?_ | refine AWP.label ?_ | refine AWP.exit ?_ | refine AWP.block ?_ | refine cT (by simp only [go_sem, Nat.reduceEqDiff, ↓reduceIte]; with_reducible rfl) ?_ | refine cF (by simp only [go_sem, Nat.reduceEqDiff, ↓reduceIte]; with_reducible rfl) ?_) | simp only [qS, Nat.reduceEqDiff, ↓reduceIte]))
  refine AWP.ret (endQW_ret ?_)
  exact ⟨_, _, rfl, rfl⟩
noncomputable def mpC (m : Int) (ll : List (List Int)) (n : Int) (x : List Int) : Int := if ptC m ll [x] = 0 then (if (decide (-1000000000000 ≤ n) && decide (n ≤ 1000000000000)) = true then 0 else 2) else ptC m ll [x]
def mpL (m : Int) (ll : List (List Int)) (n : Int) (x : List Int) : List Int := (mzL m (pc (tab2 (x.length + 1) (pc ll))) x.length (0 :: x) n).drop 1
theorem ptC_zero {m : Int} {ll L : List (List Int)} (h : ptC m ll L = 0) : lawB m ll = true ∧ ∀ i, i < L.length → ptB m ll.length (L.getD 0 []).length (L.getD i []) = true := by
  unfold ptC at h
  split at h
  · rename_i h1
    split at h
    · rename_i h2; exact ⟨h1, h2⟩
    · cases h
  · cases h
theorem pt_one {m : Int} {ll : List (List Int)} {x : List Int} (h : ptC m ll [x] = 0) : 1 < m ∧ m ≤ 10000 ∧ 1 ≤ x.length ∧ x.length + 1 ≤ ll.length ∧ ll.length ≤ 11 ∧ Pl m ll.length ll ∧ (∀ y ∈ x, 0 ≤ y ∧ y < m) ∧ Pl m (x.length + 1) (tab2 (x.length + 1) (pc ll)) := by
  have h1 := ptC_zero h
  have h2 := isPl_of (lawB_of h1.1).1
  have h3 := h1.2 0 (by simp)
  simp only [ptB, spB, List.getD_cons_zero, Bool.and_eq_true, decide_eq_true_eq, List.all_eq_true, isNum] at h3
  refine ⟨by omega, h2.2.1, by omega, by omega, h2.2.2.2.1, h2.2.2.2.2, fun y hy => by have := h3.1.2 y hy; omega, Pl.tab2 (by omega) fun i j _ => h2.2.2.2.2.num i j⟩
theorem mpC_zero {m n : Int} {ll : List (List Int)} {x : List Int} (h : mpC m ll n x = 0) : ptC m ll [x] = 0 ∧ -1000000000000 ≤ n ∧ n ≤ 1000000000000 := by
  unfold mpC at h
  split at h
  · rename_i h1
    split at h
    · rename_i h2
      simp only [Bool.and_eq_true, decide_eq_true_eq] at h2
      exact ⟨h1, h2.1, h2.2⟩
    · cases h
  · rename_i h1; exact absurd h h1
theorem mpL_len {m n : Int} {ll : List (List Int)} {x : List Int} (h : mpC m ll n x = 0) : (mpL m ll n x).length = x.length := by
  have h1 := pt_one (mpC_zero h).1
  unfold mpL
  rw [List.length_drop, (mzL_facts (m := m) (by omega) _ x.length (0 :: x) n).1]
  omega
theorem one_row (x : List Int) : [T.sl false 2 (intL x)] = rowsF [x] := rfl
theorem getD_one (x : List Int) (i : Nat) : ([x].getD i []).length ≤ x.length := by
  cases i with
  | zero => exact Nat.le_refl _
  | succ i => simp
theorem c_spec_MultipleOfPoint_ok (m n : Int) (ll : List (List Int)) (x : List Int) (hs : Sm ll) (hx : x.length ≤ 1000000000) (h : mpC m ll n x = 0) : AFn Try.prog 54 [.agg [.int .i64 m, .sl false 26 (rowsF ll)], .int .i64 n, .sl false 2 (intL x)] (.tup [.sl true 2 (intL (mpL m ll n x)), .int .i64 (mpC m ll n x)]) := by
  refine AFn.of' ttOk (by decide) Try.func54 Try.ntmps54 (by rw [Try.results54]) (by rfl) (by rfl) (by simp) (by decide) (by simp only [go_sem, Nat.reduceAdd, ↓reduceIte]; rfl) mixed (fun C hP hM hC => ?_)
  have hz := mpC_zero h
  obtain ⟨h1, h2, h3, h4, h5, h6, h7, h8⟩ := pt_one hz.1
  have hr : (decide (-1000000000000 ≤ n) && decide (n ≤ 1000000000000)) = true := by simp [hz]
  have hA := c_spec_l16Code m ll [x] hs (by simp) (fun i => Nat.le_trans (getD_one x i) hx)
  have hC1 := c_spec_l16Cut m ll ll.length x.length h6 h4 (by omega)
  have hM1 := c_spec_l16Multiple m n (tab2 (x.length + 1) (pc ll)) x x.length h1 h2 h8 h3 (by omega) h7 rfl hz.2.1 hz.2.2
  have hO := c_spec_l01Own_pt (mpL m ll n x) (by rw [mpL_len h]; omega)
  unfold mpL at hO ⊢
  generalize mzL m (pc (tab2 (x.length + 1) (pc ll))) x.length (0 :: x) n = P at *
  (repeat (first | ((with_reducible refine rgn_cons rfl (fun K hK => ?_)); simp only [go_sem, seval, ↓reduceIte, decide_true, decide_false, hz.1, hr, show ((0 : Int) == 0) = true from rfl, show ((0 : Int) != 0) = false from rfl, one_row, intL_freeze, intL_drop, Int.toNat_natCast]; (first | refine hK _ _ _ (by simp only [go_sem, Nat.reduceEqDiff, ↓reduceIte]; rfl) ?_ | refine ⟨_, hA, hK _ _ _ (by simp only [go_sem, Nat.reduceEqDiff, ↓reduceIte]; rfl) ?_⟩ | refine ⟨_, c_spec_l01In _ _ _, hK _ _ _ (by simp only [go_sem, Nat.reduceEqDiff, ↓reduceIte]; rfl) ?_⟩ | refine ⟨_, hC1, hK _ _ _ (by simp only [go_sem, Nat.reduceEqDiff, ↓reduceIte]; rfl) ?_⟩ | refine ⟨_, hM1, hK _ _ _ (by simp only [go_sem, Nat.reduceEqDiff, ↓reduceIte]; rfl) ?_⟩ | refine ⟨_, hO, hK _ _ _ (by simp only [go_sem, Nat.reduceEqDiff, ↓reduceIte]; rfl) ?_⟩); clear hK; clear K) | (with_reducible first | refine rgn_nil (by first | trivial | kernel_rfl) ?_ | refine AWP.seq ?_ | refine tX hC hP (by kernel_rfl) ?_ | refine aX hC hM hP (by kernel_rfl) ?_ | refine AWP.skip ?_ | refine AWP.label ?_ | refine AWP.exit ?_ | refine AWP.block ?_ | refine cT (by simp only [go_sem, Nat.reduceEqDiff, ↓reduceIte]; with_reducible rfl) ?_ | refine cF (by simp only [go_sem, Nat.reduceEqDiff, ↓reduceIte]; with_reducible rfl) ?_) | simp only [qS, Nat.reduceEqDiff, ↓reduceIte]))
  (refine AWP.ret ?_; first | refine retOk1 (by simp only [go_sem, seval, ↓reduceIte, decide_true, decide_false]; rfl) ?_ | refine retOk2 (by simp only [go_sem, seval, ↓reduceIte, decide_true, decide_false]; rfl) (by simp only [go_sem, seval, ↓reduceIte, decide_true, decide_false]; rfl) (by simp) ?_ | refine retOk3 (by simp only [go_sem, seval, ↓reduceIte, decide_true, decide_false]; rfl) (by simp only [go_sem, seval, ↓reduceIte, decide_true, decide_false]; rfl) (by simp only [go_sem, seval, ↓reduceIte, decide_true, decide_false]; rfl) (by simp) ?_)
  rw [h]
theorem c_spec_MultipleOfPoint_no (m n : Int) (ll : List (List Int)) (x : List Int) (hs : Sm ll) (hx : x.length ≤ 1000000000) (h : ¬ mpC m ll n x = 0) : AFn Try.prog 54 [.agg [.int .i64 m, .sl false 26 (rowsF ll)], .int .i64 n, .sl false 2 (intL x)] (.tup [.nil, .int .i64 (mpC m ll n x)]) := by
  refine AFn.of' ttOk (by decide) Try.func54 Try.ntmps54 (by rw [Try.results54]) (by rfl) (by rfl) (by simp) (by decide) (by simp only [go_sem, Nat.reduceAdd, ↓reduceIte]; rfl) mixed (fun C hP hM hC => ?_)
  have hA := c_spec_l16Code m ll [x] hs (by simp) (fun i => Nat.le_trans (getD_one x i) hx)
  by_cases c1 : ptC m ll [x] = 0
  · have hd : (decide (-1000000000000 ≤ n) && decide (n ≤ 1000000000000)) = false := by
      cases hx : (decide (-1000000000000 ≤ n) && decide (n ≤ 1000000000000)) with
      | false => rfl
      | true => exact absurd (by simp only [mpC, if_pos c1, hx, if_true]) h
    have e : mpC m ll n x = 2 := by simp only [mpC, if_pos c1, hd]; rfl
    (repeat (first | ((with_reducible refine rgn_cons rfl (fun K hK => ?_)); simp only [go_sem, seval, ↓reduceIte, decide_true, decide_false, c1, hd, show ((0 : Int) == 0) = true from rfl, show ((2 : Int) != 0) = true from rfl, one_row]; (first | refine hK _ _ _ (by simp only [go_sem, Nat.reduceEqDiff, ↓reduceIte]; rfl) ?_ | refine ⟨_, hA, hK _ _ _ (by simp only [go_sem, Nat.reduceEqDiff, ↓reduceIte]; rfl) ?_⟩ | refine ⟨_, c_spec_l01In _ _ _, hK _ _ _ (by simp only [go_sem, Nat.reduceEqDiff, ↓reduceIte]; rfl) ?_⟩); clear hK; clear K) | (with_reducible first | refine rgn_nil (by first | trivial | kernel_rfl) ?_ | refine AWP.seq ?_ | refine tX hC hP (by kernel_rfl) ?_ | refine aX hC hM hP (by kernel_rfl) ?_ | refine AWP.skip ?_ | refine AWP.label ?_ | refine AWP.exit ?_ | refine AWP.block ?_ | refine cT (by simp only [go_sem, Nat.reduceEqDiff, ↓reduceIte]; with_reducible rfl) ?_ | refine cF (by simp only [go_sem, Nat.reduceEqDiff, ↓reduceIte]; with_reducible rfl) ?_) | simp only [qS, Nat.reduceEqDiff, ↓reduceIte]))
    (refine AWP.ret ?_; first | refine retOk1 (by simp only [go_sem, seval, ↓reduceIte, decide_true, decide_false]; rfl) ?_ | refine retOk2 (by simp only [go_sem, seval, ↓reduceIte, decide_true, decide_false]; rfl) (by simp only [go_sem, seval, ↓reduceIte, decide_true, decide_false]; rfl) (by simp) ?_ | refine retOk3 (by simp only [go_sem, seval, ↓reduceIte, decide_true, decide_false]; rfl) (by simp only [go_sem, seval, ↓reduceIte, decide_true, decide_false]; rfl) (by simp only [go_sem, seval, ↓reduceIte, decide_true, decide_false]; rfl) (by simp) ?_)
    rw [e]
  · (repeat (first | ((with_reducible refine rgn_cons rfl (fun K hK => ?_)); simp only [go_sem, seval, ↓reduceIte, decide_true, decide_false, show (ptC m ll [x] == 0) = false by rw [beq_eq_false_iff_ne]; exact c1, show (ptC m ll [x] != 0) = true by rw [bne_iff_ne]; exact c1, one_row]; (first | refine hK _ _ _ (by simp only [go_sem, Nat.reduceEqDiff, ↓reduceIte]; rfl) ?_ | refine ⟨_, hA, hK _ _ _ (by simp only [go_sem, Nat.reduceEqDiff, ↓reduceIte]; rfl) ?_⟩); clear hK; clear K) | (with_reducible first | refine rgn_nil (by first | trivial | kernel_rfl) ?_ | refine AWP.seq ?_ | refine tX hC hP (by kernel_rfl) ?_ | refine aX hC hM hP (by kernel_rfl) ?_ | refine AWP.skip ?_ | refine AWP.label ?_ | refine AWP.exit ?_ | refine AWP.block ?_ | refine cT (by simp only [go_sem, Nat.reduceEqDiff, ↓reduceIte]; with_reducible rfl) ?_ | refine cF (by simp only [go_sem, Nat.reduceEqDiff, ↓reduceIte]; with_reducible rfl) ?_) | simp only [qS, Nat.reduceEqDiff, ↓reduceIte]))
    (refine AWP.ret ?_; first | refine retOk1 (by simp only [go_sem, seval, ↓reduceIte, decide_true, decide_false]; rfl) ?_ | refine retOk2 (by simp only [go_sem, seval, ↓reduceIte, decide_true, decide_false]; rfl) (by simp only [go_sem, seval, ↓reduceIte, decide_true, decide_false]; rfl) (by simp) ?_ | refine retOk3 (by simp only [go_sem, seval, ↓reduceIte, decide_true, decide_false]; rfl) (by simp only [go_sem, seval, ↓reduceIte, decide_true, decide_false]; rfl) (by simp only [go_sem, seval, ↓reduceIte, decide_true, decide_false]; rfl) (by simp) ?_)
    rw [show mpC m ll n x = ptC m ll [x] from if_neg c1]
theorem c_impl_MultipleOfPoint_ok (m n : Int) (ll : List (List Int)) (x : List Int) (hs : Sm ll) (hx : x.length ≤ 1000000000) (h : mpC m ll n x = 0) : AFn Try.prog 55 [.agg [.int .i64 m, .sl false 26 (rowsF ll)], .int .i64 n, .sl false 2 (intL x)] (.tup [.sl true 2 (intL (mpL m ll n x)), .int .i64 (mpC m ll n x)]) := by
  refine AFn.of' ttOk (by decide) Try.func55 Try.ntmps55 (by rw [Try.results55]) (by rfl) (by rfl) (by simp) (by decide) (by simp only [go_sem, Nat.reduceAdd, ↓reduceIte]; rfl) mixed (fun C hP hM hC => ?_)
  have hz := mpC_zero h
  obtain ⟨h1, h2, h3, h4, h5, h6, h7, h8⟩ := pt_one hz.1
  have hr : (decide (-1000000000000 ≤ n) && decide (n ≤ 1000000000000)) = true := by simp [hz]
  have hA := c_impl_pointed m ll [x] hs (by simp) (by simp) (fun i => Nat.le_trans (getD_one x i) hx)
  rw [List.getD_cons_zero] at hA
  have hC1 := c_impl_Plane_cut m ll ll.length x.length h6 h4 (by omega)
  have ha0 : ∀ y ∈ (0 :: x), 0 ≤ y ∧ y < m := fun y hy => by
    rcases List.mem_cons.1 hy with e | e
    · omega
    · exact h7 y e
  have hU := c_impl_curveOf m x hx
  have hM1 := c_impl_Plane_multiple m n (tab2 (x.length + 1) (pc ll)) (0 :: x) x.length h1 h2 h8 h3 (by omega) ha0 (by simp) hz.2.1 hz.2.2
  have hO := c_impl_copyOf_int64_pt (mpL m ll n x) (by rw [mpL_len h]; omega)
  have f := (mzL_facts (m := m) (by omega) (pc (tab2 (x.length + 1) (pc ll))) x.length (0 :: x) n).1
  unfold mpL at hO ⊢
  generalize mzL m (pc (tab2 (x.length + 1) (pc ll))) x.length (0 :: x) n = P at *
  (repeat (first | ((with_reducible refine rgn_cons rfl (fun K hK => ?_)); simp only [go_sem, seval, ↓reduceIte, decide_true, decide_false, hz.1, hr, show ((0 : Int) != 0) = false from rfl, one_row, show (0 : Int) ≤ 1 by decide, show (1 : Int) ≤ (P.length : Int) by omega, Int.le_refl, Int.toNat_natCast, show (1 : Int).toNat = 1 from rfl, intL_freeze, intL_take, intL_drop, List.take_length, Option.isNone_none, Bool.false_and]; (first | refine hK _ _ _ (by simp only [go_sem, Nat.reduceEqDiff, ↓reduceIte]; rfl) ?_ | refine ⟨_, hA, hK _ _ _ (by simp only [go_sem, Nat.reduceEqDiff, ↓reduceIte]; rfl) ?_⟩ | refine ⟨_, c_impl_in _ _ _, hK _ _ _ (by simp only [go_sem, Nat.reduceEqDiff, ↓reduceIte]; rfl) ?_⟩ | refine ⟨_, hC1, hK _ _ _ (by simp only [go_sem, Nat.reduceEqDiff, ↓reduceIte]; rfl) ?_⟩ | refine ⟨_, hU, hK _ _ _ (by simp only [go_sem, Nat.reduceEqDiff, ↓reduceIte]; rfl) ?_⟩ | refine ⟨_, hM1, hK _ _ _ (by simp only [go_sem, Nat.reduceEqDiff, ↓reduceIte]; rfl) ?_⟩ | refine ⟨_, hO, hK _ _ _ (by simp only [go_sem, Nat.reduceEqDiff, ↓reduceIte]; rfl) ?_⟩); clear hK; clear K) | (with_reducible first | refine rgn_nil (by first | trivial | kernel_rfl) ?_ | refine AWP.seq ?_ | refine tX hC hP (by kernel_rfl) ?_ | refine aX hC hM hP (by kernel_rfl) ?_ | refine AWP.skip ?_ | refine AWP.label ?_ | refine AWP.exit ?_ | refine AWP.block ?_ | refine cT (by simp only [go_sem, Nat.reduceEqDiff, ↓reduceIte]; with_reducible rfl) ?_ | refine cF (by simp only [go_sem, Nat.reduceEqDiff, ↓reduceIte]; with_reducible rfl) ?_) | simp only [qS, Nat.reduceEqDiff, ↓reduceIte]))
  (refine AWP.ret ?_; first | refine retOk1 (by simp only [go_sem, seval, ↓reduceIte, decide_true, decide_false]; rfl) ?_ | refine retOk2 (by simp only [go_sem, seval, ↓reduceIte, decide_true, decide_false]; rfl) (by simp only [go_sem, seval, ↓reduceIte, decide_true, decide_false]; rfl) (by simp) ?_ | refine retOk3 (by simp only [go_sem, seval, ↓reduceIte, decide_true, decide_false]; rfl) (by simp only [go_sem, seval, ↓reduceIte, decide_true, decide_false]; rfl) (by simp only [go_sem, seval, ↓reduceIte, decide_true, decide_false]; rfl) (by simp) ?_)
  rw [h]
theorem c_impl_MultipleOfPoint_no (m n : Int) (ll : List (List Int)) (x : List Int) (hs : Sm ll) (hx : x.length ≤ 1000000000) (h : ¬ mpC m ll n x = 0) : AFn Try.prog 55 [.agg [.int .i64 m, .sl false 26 (rowsF ll)], .int .i64 n, .sl false 2 (intL x)] (.tup [.nil, .int .i64 (mpC m ll n x)]) := by
  refine AFn.of' ttOk (by decide) Try.func55 Try.ntmps55 (by rw [Try.results55]) (by rfl) (by rfl) (by simp) (by decide) (by simp only [go_sem, Nat.reduceAdd, ↓reduceIte]; rfl) mixed (fun C hP hM hC => ?_)
  have hA := c_impl_pointed m ll [x] hs (by simp) (by simp) (fun i => Nat.le_trans (getD_one x i) hx)
  rw [List.getD_cons_zero] at hA
  by_cases c1 : ptC m ll [x] = 0
  · have hd : (decide (-1000000000000 ≤ n) && decide (n ≤ 1000000000000)) = false := by
      cases hx : (decide (-1000000000000 ≤ n) && decide (n ≤ 1000000000000)) with
      | false => rfl
      | true => exact absurd (by simp only [mpC, if_pos c1, hx, if_true]) h
    have e : mpC m ll n x = 2 := by simp only [mpC, if_pos c1, hd]; rfl
    (repeat (first | ((with_reducible refine rgn_cons rfl (fun K hK => ?_)); simp only [go_sem, seval, ↓reduceIte, decide_true, decide_false, c1, hd, show ((0 : Int) != 0) = false from rfl, one_row]; (first | refine hK _ _ _ (by simp only [go_sem, Nat.reduceEqDiff, ↓reduceIte]; rfl) ?_ | refine ⟨_, hA, hK _ _ _ (by simp only [go_sem, Nat.reduceEqDiff, ↓reduceIte]; rfl) ?_⟩ | refine ⟨_, c_impl_in _ _ _, hK _ _ _ (by simp only [go_sem, Nat.reduceEqDiff, ↓reduceIte]; rfl) ?_⟩); clear hK; clear K) | (with_reducible first | refine rgn_nil (by first | trivial | kernel_rfl) ?_ | refine AWP.seq ?_ | refine tX hC hP (by kernel_rfl) ?_ | refine aX hC hM hP (by kernel_rfl) ?_ | refine AWP.skip ?_ | refine AWP.label ?_ | refine AWP.exit ?_ | refine AWP.block ?_ | refine cT (by simp only [go_sem, Nat.reduceEqDiff, ↓reduceIte]; with_reducible rfl) ?_ | refine cF (by simp only [go_sem, Nat.reduceEqDiff, ↓reduceIte]; with_reducible rfl) ?_) | simp only [qS, Nat.reduceEqDiff, ↓reduceIte]))
    (refine AWP.ret ?_; first | refine retOk1 (by simp only [go_sem, seval, ↓reduceIte, decide_true, decide_false]; rfl) ?_ | refine retOk2 (by simp only [go_sem, seval, ↓reduceIte, decide_true, decide_false]; rfl) (by simp only [go_sem, seval, ↓reduceIte, decide_true, decide_false]; rfl) (by simp) ?_ | refine retOk3 (by simp only [go_sem, seval, ↓reduceIte, decide_true, decide_false]; rfl) (by simp only [go_sem, seval, ↓reduceIte, decide_true, decide_false]; rfl) (by simp only [go_sem, seval, ↓reduceIte, decide_true, decide_false]; rfl) (by simp) ?_)
    rw [e]
  · (repeat (first | ((with_reducible refine rgn_cons rfl (fun K hK => ?_)); simp only [go_sem, seval, ↓reduceIte, decide_true, decide_false, show (ptC m ll [x] != 0) = true by rw [bne_iff_ne]; exact c1, one_row]; (first | refine hK _ _ _ (by simp only [go_sem, Nat.reduceEqDiff, ↓reduceIte]; rfl) ?_ | refine ⟨_, hA, hK _ _ _ (by simp only [go_sem, Nat.reduceEqDiff, ↓reduceIte]; rfl) ?_⟩); clear hK; clear K) | (with_reducible first | refine rgn_nil (by first | trivial | kernel_rfl) ?_ | refine AWP.seq ?_ | refine tX hC hP (by kernel_rfl) ?_ | refine aX hC hM hP (by kernel_rfl) ?_ | refine AWP.skip ?_ | refine AWP.label ?_ | refine AWP.exit ?_ | refine AWP.block ?_ | refine cT (by simp only [go_sem, Nat.reduceEqDiff, ↓reduceIte]; with_reducible rfl) ?_ | refine cF (by simp only [go_sem, Nat.reduceEqDiff, ↓reduceIte]; with_reducible rfl) ?_) | simp only [qS, Nat.reduceEqDiff, ↓reduceIte]))
    (refine AWP.ret ?_; first | refine retOk1 (by simp only [go_sem, seval, ↓reduceIte, decide_true, decide_false]; rfl) ?_ | refine retOk2 (by simp only [go_sem, seval, ↓reduceIte, decide_true, decide_false]; rfl) (by simp only [go_sem, seval, ↓reduceIte, decide_true, decide_false]; rfl) (by simp) ?_ | refine retOk3 (by simp only [go_sem, seval, ↓reduceIte, decide_true, decide_false]; rfl) (by simp only [go_sem, seval, ↓reduceIte, decide_true, decide_false]; rfl) (by simp only [go_sem, seval, ↓reduceIte, decide_true, decide_false]; rfl) (by simp) ?_)
    rw [show mpC m ll n x = ptC m ll [x] from if_neg c1]
theorem mpC_neg {m : Int} {ll : List (List Int)} {x : List Int} : mpC m ll (-1) x = ptC m ll [x] := by
  unfold mpC
  split
  · rename_i h; rw [if_pos (by decide), h]
  · rfl
theorem c_spec_OppositePoint_ok (m : Int) (ll : List (List Int)) (x : List Int) (hs : Sm ll) (hx : x.length ≤ 1000000000) (h : mpC m ll (-1) x = 0) : AFn Try.prog 52 [.agg [.int .i64 m, .sl false 26 (rowsF ll)], .sl false 2 (intL x)] (.tup [.sl true 2 (intL (mpL m ll (-1) x)), .int .i64 (mpC m ll (-1) x)]) := by
  refine AFn.of' ttOk (by decide) Try.func52 Try.ntmps52 (by rw [Try.results52]) (by rfl) (by rfl) (by simp) (by decide) (by simp only [go_sem, Nat.reduceAdd, ↓reduceIte]; rfl) mixed (fun C hP hM hC => ?_)
  have hz := mpC_zero h
  obtain ⟨h1, h2, h3, h4, h5, h6, h7, h8⟩ := pt_one hz.1
  have hA := c_spec_l16Code m ll [x] hs (by simp) (fun i => Nat.le_trans (getD_one x i) hx)
  have hC1 := c_spec_l16Cut m ll ll.length x.length h6 h4 (by omega)
  have hM1 := c_spec_l16Multiple m (-1) (tab2 (x.length + 1) (pc ll)) x x.length h1 h2 h8 h3 (by omega) h7 rfl hz.2.1 hz.2.2
  have hO := c_spec_l01Own_pt (mpL m ll (-1) x) (by rw [mpL_len h]; omega)
  unfold mpL at hO ⊢
  generalize mzL m (pc (tab2 (x.length + 1) (pc ll))) x.length (0 :: x) (-1) = P at *
  (repeat (first | ((with_reducible refine rgn_cons rfl (fun K hK => ?_)); simp only [go_sem, seval, ↓reduceIte, decide_true, decide_false, hz.1, show ((0 : Int) != 0) = false from rfl, one_row, intL_freeze, intL_drop, Int.toNat_natCast]; (first | refine hK _ _ _ (by simp only [go_sem, Nat.reduceEqDiff, ↓reduceIte]; rfl) ?_ | refine ⟨_, hA, hK _ _ _ (by simp only [go_sem, Nat.reduceEqDiff, ↓reduceIte]; rfl) ?_⟩ | refine ⟨_, hC1, hK _ _ _ (by simp only [go_sem, Nat.reduceEqDiff, ↓reduceIte]; rfl) ?_⟩ | refine ⟨_, hM1, hK _ _ _ (by simp only [go_sem, Nat.reduceEqDiff, ↓reduceIte]; rfl) ?_⟩ | refine ⟨_, hO, hK _ _ _ (by simp only [go_sem, Nat.reduceEqDiff, ↓reduceIte]; rfl) ?_⟩); clear hK; clear K) | (with_reducible first | refine rgn_nil (by first | trivial | kernel_rfl) ?_ | refine AWP.seq ?_ | refine tX hC hP (by kernel_rfl) ?_ | refine aX hC hM hP (by kernel_rfl) ?_ | refine AWP.skip ?_ | refine AWP.label ?_ | refine AWP.exit ?_ | refine AWP.block ?_ | refine cT (by simp only [go_sem, Nat.reduceEqDiff, ↓reduceIte]; with_reducible rfl) ?_ | refine cF (by simp only [go_sem, Nat.reduceEqDiff, ↓reduceIte]; with_reducible rfl) ?_) | simp only [qS, Nat.reduceEqDiff, ↓reduceIte]))
  (refine AWP.ret ?_; first | refine retOk1 (by simp only [go_sem, seval, ↓reduceIte, decide_true, decide_false]; rfl) ?_ | refine retOk2 (by simp only [go_sem, seval, ↓reduceIte, decide_true, decide_false]; rfl) (by simp only [go_sem, seval, ↓reduceIte, decide_true, decide_false]; rfl) (by simp) ?_ | refine retOk3 (by simp only [go_sem, seval, ↓reduceIte, decide_true, decide_false]; rfl) (by simp only [go_sem, seval, ↓reduceIte, decide_true, decide_false]; rfl) (by simp only [go_sem, seval, ↓reduceIte, decide_true, decide_false]; rfl) (by simp) ?_)
  rw [h]
theorem c_spec_OppositePoint_no (m : Int) (ll : List (List Int)) (x : List Int) (hs : Sm ll) (hx : x.length ≤ 1000000000) (h : ¬ mpC m ll (-1) x = 0) : AFn Try.prog 52 [.agg [.int .i64 m, .sl false 26 (rowsF ll)], .sl false 2 (intL x)] (.tup [.nil, .int .i64 (mpC m ll (-1) x)]) := by
  refine AFn.of' ttOk (by decide) Try.func52 Try.ntmps52 (by rw [Try.results52]) (by rfl) (by rfl) (by simp) (by decide) (by simp only [go_sem, Nat.reduceAdd, ↓reduceIte]; rfl) mixed (fun C hP hM hC => ?_)
  have hA := c_spec_l16Code m ll [x] hs (by simp) (fun i => Nat.le_trans (getD_one x i) hx)
  rw [mpC_neg] at h ⊢
  (repeat (first | ((with_reducible refine rgn_cons rfl (fun K hK => ?_)); simp only [go_sem, seval, ↓reduceIte, decide_true, decide_false, show (ptC m ll [x] != 0) = true by rw [bne_iff_ne]; exact h, one_row]; (first | refine hK _ _ _ (by simp only [go_sem, Nat.reduceEqDiff, ↓reduceIte]; rfl) ?_ | refine ⟨_, hA, hK _ _ _ (by simp only [go_sem, Nat.reduceEqDiff, ↓reduceIte]; rfl) ?_⟩); clear hK; clear K) | (with_reducible first | refine rgn_nil (by first | trivial | kernel_rfl) ?_ | refine AWP.seq ?_ | refine tX hC hP (by kernel_rfl) ?_ | refine aX hC hM hP (by kernel_rfl) ?_ | refine AWP.skip ?_ | refine AWP.label ?_ | refine AWP.exit ?_ | refine AWP.block ?_ | refine cT (by simp only [go_sem, Nat.reduceEqDiff, ↓reduceIte]; with_reducible rfl) ?_ | refine cF (by simp only [go_sem, Nat.reduceEqDiff, ↓reduceIte]; with_reducible rfl) ?_) | simp only [qS, Nat.reduceEqDiff, ↓reduceIte]))
  (refine AWP.ret ?_; first | refine retOk1 (by simp only [go_sem, seval, ↓reduceIte, decide_true, decide_false]; rfl) ?_ | refine retOk2 (by simp only [go_sem, seval, ↓reduceIte, decide_true, decide_false]; rfl) (by simp only [go_sem, seval, ↓reduceIte, decide_true, decide_false]; rfl) (by simp) ?_ | refine retOk3 (by simp only [go_sem, seval, ↓reduceIte, decide_true, decide_false]; rfl) (by simp only [go_sem, seval, ↓reduceIte, decide_true, decide_false]; rfl) (by simp only [go_sem, seval, ↓reduceIte, decide_true, decide_false]; rfl) (by simp) ?_)
  rfl
theorem c_impl_OppositePoint_ok (m : Int) (ll : List (List Int)) (x : List Int) (hs : Sm ll) (hx : x.length ≤ 1000000000) (h : mpC m ll (-1) x = 0) : AFn Try.prog 53 [.agg [.int .i64 m, .sl false 26 (rowsF ll)], .sl false 2 (intL x)] (.tup [.sl true 2 (intL (mpL m ll (-1) x)), .int .i64 (mpC m ll (-1) x)]) := by
  refine AFn.of' ttOk (by decide) Try.func53 Try.ntmps53 (by rw [Try.results53]) (by rfl) (by rfl) (by simp) (by decide) (by simp only [go_sem, Nat.reduceAdd, ↓reduceIte]; rfl) mixed (fun C hP hM hC => ?_)
  (repeat (first | ((with_reducible refine rgn_cons rfl (fun K hK => ?_)); simp only [go_sem, seval, ↓reduceIte, decide_true, decide_false]; (first | refine hK _ _ _ (by simp only [go_sem, Nat.reduceEqDiff, ↓reduceIte]; rfl) ?_ | refine ⟨_, c_impl_MultipleOfPoint_ok m (-1) ll x hs hx h, hK _ _ _ (by simp only [go_sem, Nat.reduceEqDiff, ↓reduceIte]; rfl) ?_⟩); clear hK; clear K) | (with_reducible first | refine rgn_nil (by first | trivial | kernel_rfl) ?_ | refine AWP.seq ?_ | refine tX hC hP (by kernel_rfl) ?_ | refine aX hC hM hP (by kernel_rfl) ?_ | refine AWP.skip ?_ | refine AWP.label ?_ | refine AWP.exit ?_ | refine AWP.block ?_ | refine cT (by simp only [go_sem, Nat.reduceEqDiff, ↓reduceIte]; with_reducible rfl) ?_ | refine cF (by simp only [go_sem, Nat.reduceEqDiff, ↓reduceIte]; with_reducible rfl) ?_) | simp only [qS, Nat.reduceEqDiff, ↓reduceIte]))
  (refine AWP.ret ?_; first | refine retOk1 (by simp only [go_sem, seval, ↓reduceIte, decide_true, decide_false]; rfl) ?_ | refine retOk2 (by simp only [go_sem, seval, ↓reduceIte, decide_true, decide_false]; rfl) (by simp only [go_sem, seval, ↓reduceIte, decide_true, decide_false]; rfl) (by simp) ?_ | refine retOk3 (by simp only [go_sem, seval, ↓reduceIte, decide_true, decide_false]; rfl) (by simp only [go_sem, seval, ↓reduceIte, decide_true, decide_false]; rfl) (by simp only [go_sem, seval, ↓reduceIte, decide_true, decide_false]; rfl) (by simp) ?_)
  rfl
theorem c_impl_OppositePoint_no (m : Int) (ll : List (List Int)) (x : List Int) (hs : Sm ll) (hx : x.length ≤ 1000000000) (h : ¬ mpC m ll (-1) x = 0) : AFn Try.prog 53 [.agg [.int .i64 m, .sl false 26 (rowsF ll)], .sl false 2 (intL x)] (.tup [.nil, .int .i64 (mpC m ll (-1) x)]) := by
  refine AFn.of' ttOk (by decide) Try.func53 Try.ntmps53 (by rw [Try.results53]) (by rfl) (by rfl) (by simp) (by decide) (by simp only [go_sem, Nat.reduceAdd, ↓reduceIte]; rfl) mixed (fun C hP hM hC => ?_)
  (repeat (first | ((with_reducible refine rgn_cons rfl (fun K hK => ?_)); simp only [go_sem, seval, ↓reduceIte, decide_true, decide_false]; (first | refine hK _ _ _ (by simp only [go_sem, Nat.reduceEqDiff, ↓reduceIte]; rfl) ?_ | refine ⟨_, c_impl_MultipleOfPoint_no m (-1) ll x hs hx h, hK _ _ _ (by simp only [go_sem, Nat.reduceEqDiff, ↓reduceIte]; rfl) ?_⟩); clear hK; clear K) | (with_reducible first | refine rgn_nil (by first | trivial | kernel_rfl) ?_ | refine AWP.seq ?_ | refine tX hC hP (by kernel_rfl) ?_ | refine aX hC hM hP (by kernel_rfl) ?_ | refine AWP.skip ?_ | refine AWP.label ?_ | refine AWP.exit ?_ | refine AWP.block ?_ | refine cT (by simp only [go_sem, Nat.reduceEqDiff, ↓reduceIte]; with_reducible rfl) ?_ | refine cF (by simp only [go_sem, Nat.reduceEqDiff, ↓reduceIte]; with_reducible rfl) ?_) | simp only [qS, Nat.reduceEqDiff, ↓reduceIte]))
  (refine AWP.ret ?_; first | refine retOk1 (by simp only [go_sem, seval, ↓reduceIte, decide_true, decide_false]; rfl) ?_ | refine retOk2 (by simp only [go_sem, seval, ↓reduceIte, decide_true, decide_false]; rfl) (by simp only [go_sem, seval, ↓reduceIte, decide_true, decide_false]; rfl) (by simp) ?_ | refine retOk3 (by simp only [go_sem, seval, ↓reduceIte, decide_true, decide_false]; rfl) (by simp only [go_sem, seval, ↓reduceIte, decide_true, decide_false]; rfl) (by simp only [go_sem, seval, ↓reduceIte, decide_true, decide_false]; rfl) (by simp) ?_)
  rfl
end Go.Proofs.Ytamdpfnmclkljaa
