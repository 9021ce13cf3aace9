/-
  Curves put into planes.
-/
import Derived.Test.YtapdekacpecgiaaGreatQa
import Derived.Test.YtapdekacpecgiaaGreatKe
import Derived.Test.YtapdekacpecgiaaGreatLd
namespace Go.Proofs.YtapdekacpecgiaaGreat
open Go.RowKit
set_option linter.unusedSimpArgs false
set_option linter.unusedVariables false
set_option linter.unusedSectionVars false
set_option maxRecDepth 20000
-- Curves put into planes.
def pwS (m : Int) (a : List Int) (d : Nat) : Nat → List Int
  | 0 => oneL d
  | k + 1 => timesL m (pwS m a d k) a d
theorem pwS_facts {m : Int} (hm : 1 < m) (a : List Int) (d : Nat) : ∀ k, (pwS m a d k).length = d + 1 ∧ ∀ x ∈ pwS m a d k, 0 ≤ x ∧ x < m
  | 0 => ⟨oneL_length d, oneL_num d hm⟩
  | k + 1 => ⟨timesL_length _ _ _ _, timesL_num _ _ _ _ (by omega)⟩
def serO (m : Int) (L : List (List Int)) : List T := L.map fun l => (.agg [.int .i64 m, .sl true 2 (intL l)])
def serF (m : Int) (L : List (List Int)) : List T := L.map fun l => (.agg [.int .i64 m, .sl false 2 (intL l)])
theorem serO_length (m : Int) (L : List (List Int)) : (serO m L).length = L.length := by simp [serO]
theorem serF_length (m : Int) (L : List (List Int)) : (serF m L).length = L.length := by simp [serF]
theorem serO_at (m : Int) (L : List (List Int)) (i : Nat) (h : i < L.length) : (serO m L)[i]? = some (.agg [.int .i64 m, .sl true 2 (intL (L.getD i []))]) := by
  simp [serO, List.getD_eq_getElem?_getD, h]
theorem serO_sizeT (m : Int) (L : List (List Int)) (i : Nat) (h : i ≤ L.length) : T.sizeL ((serO m L).take i) = i * 2 := by
  rw [sizeL_of_all (n := 2) (fun t ht => by
    have ht := List.mem_of_mem_take ht
    simp only [serO, List.mem_map] at ht
    obtain ⟨x, _, rfl⟩ := ht
    rfl)]
  simp [serO_length]; omega
theorem serO_snoc (m : Int) (L : List (List Int)) (l : List Int) : serO m L ++ [.agg [.int .i64 m, .sl true 2 (intL l)]] = serO m (L ++ [l]) := by simp [serO]
theorem serO_refFree (m : Int) : ∀ (L : List (List Int)), T.refFreeL (serO m L) = true
  | [] => rfl
  | l :: L => by
    have := serO_refFree m L
    simp only [serO, List.map_cons, T.refFreeL, T.refFree, Bool.and_true, Bool.true_and] at this ⊢
    simp [this, intL_refFree]
theorem serO_freeze (m : Int) : ∀ (L : List (List Int)), T.freezeL (serO m L) = serF m L
  | [] => rfl
  | l :: L => by
    have := serO_freeze m L
    have e : T.freezeL (intL l) = intL l := pureL_freeze _ (intL_pure l)
    simp only [serO, serF, List.map_cons, T.freezeL, T.freeze, e] at this ⊢
    rw [this]
theorem serF_pure (m : Int) : ∀ (L : List (List Int)), T.pureL (serF m L) = true
  | [] => rfl
  | l :: L => by
    have := serF_pure m L
    simp only [serF, List.map_cons, T.pureL, T.pure, Bool.and_true, Bool.true_and] at this ⊢
    simp [this, intL_pure]
theorem serF_noOwn (m : Int) (L : List (List Int)) : T.noOwnL (serF m L) = true := pureL_noOwn _ (serF_pure m L)
theorem serF_refFree (m : Int) (L : List (List Int)) : T.refFreeL (serF m L) = true := pureL_refFree _ (serF_pure m L)
theorem serO_noF (m : Int) : ∀ (L : List (List Int)), T.noFL (serO m L) = true
  | [] => rfl
  | l :: L => by
    have := serO_noF m L
    simp only [serO, List.map_cons, T.noFL, T.noF, Bool.and_true, Bool.true_and] at this ⊢
    simp [this, intL_noF]
attribute [go_sem] serO_freeze serO_refFree serO_noF serF_pure serF_noOwn serF_refFree serO_length serF_length
def pwSL (m : Int) (a : List Int) (d k : Nat) : List (List Int) := (List.range k).map (pwS m a d)
theorem pwSL_length (m : Int) (a : List Int) (d k : Nat) : (pwSL m a d k).length = k := by simp [pwSL]
theorem pwSL_getD {m : Int} {a : List Int} {d k i : Nat} (h : i < k) : (pwSL m a d k).getD i [] = pwS m a d i := by simp [pwSL, List.getD_eq_getElem?_getD, h]
theorem pwSL_succ (m : Int) (a : List Int) (d k : Nat) : pwSL m a d k ++ [pwS m a d k] = pwSL m a d (k + 1) := by simp [pwSL, List.range_succ]
set_option maxHeartbeats 1000000 in
theorem c_impl_Series_powers (m : Int) (l : List Int) (d : Nat) (hm : 1 < m) (hm2 : m ≤ 10000) (ha : ∀ x ∈ l, 0 ≤ x ∧ x < m) (hl : l.length = d + 1) (hd : d ≤ 1000) : AFn Tryz.prog 173 [.agg [.int .i64 m, .sl false 2 (intL l)]] (.sl true 29 (serO m (pwSL m l d (d + 1)))) := by
  refine AFn.of' ttOk (by decide) Tryz.func173 Tryz.ntmps173 (by rw [Tryz.results173]) (by rfl) (by rfl) (by simp) (by decide) (by simp only [go_sem, Nat.reduceAdd, ↓reduceIte]; rfl) mixed (fun C hP hM hC => ?_)
  have e1 : (1 : Int) % m = 1 := Int.emod_eq_of_lt (by omega) (by omega)
  have h0 := c_impl_Series_constant m l 1 (by omega) (by omega) (by omega) (by omega)
  rw [e1, hl, oneL_of] at h0
  have hD := c_impl_Series_degree m l (by omega)
  rw [hl, show ((d + 1 : Nat) : Int) - 1 = (d : Int) by omega] at hD
  (repeat (first | ((with_reducible refine rgn_cons rfl (fun K hK => ?_)); simp only [go_sem, seval, ↓reduceIte, decide_true, decide_false]; (first | refine hK _ _ _ (by simp only [go_sem, Nat.reduceEqDiff, ↓reduceIte]; rfl) ?_ | refine ⟨_, h0, hK _ _ _ (by simp only [go_sem, Nat.reduceEqDiff, ↓reduceIte]; rfl) ?_⟩ | refine ⟨_, hD, hK _ _ _ (by simp only [go_sem, Nat.reduceEqDiff, ↓reduceIte]; rfl) ?_⟩); clear hK; clear K) | (with_reducible first | refine rgn_nil (by first | trivial | kernel_rfl) ?_ | refine AWP.seq ?_ | refine tX hC hP (by kernel_rfl) ?_ | refine aX hC hM hP (by kernel_rfl) ?_ | refine AWP.skip ?_ | refine AWP.label ?_ | refine AWP.exit ?_ | refine AWP.block ?_ | refine cTa ?_ | refine cFa ?_) | simp only [qS, Nat.reduceEqDiff, ↓reduceIte]))
  refine AWP.loop (fun w : Nat × Nat => [(9, ⟨0, .val (.int .i64 w.1)⟩), (8, ⟨1, .val (.int .i64 d)⟩), (3, ⟨w.2, .own (.sl true 29 (serO m (pwSL m l d (w.1 + 1))))⟩), (1, ⟨1, .own (.box 29 (.agg [.int .i64 m, .sl false 2 (intL l)]))⟩)]) (fun w => w.1 ≤ d) (fun w => d - w.1) (0, 1) (Nat.zero_le _) (fun i => rfl) ?_ (fun w hw => ?_)
  · simp [Sub, lk, pwSL, pwS, serO]
  · obtain ⟨i, v⟩ := w
    simp only at hw ⊢
    by_cases hi : i < d
    · have hp := pwS_facts hm l d i
      have hT := c_impl_Series_times m (pwS m l d i) l d (by omega) hm2 hp.2 ha hp.1 hl (by omega)
      have hii : i < (pwSL m l d (i + 1)).length := by rw [pwSL_length]; omega
      have hs := pwSL_succ m l d (i + 1)
      rw [pwS] at hs
      (repeat (first | ((with_reducible refine rgn_cons rfl (fun K hK => ?_)); simp only [go_sem, seval, ↓reduceIte, decide_true, decide_false, show (i : Int) < (d : Int) by omega, decide_true, serO_length, pwSL_length, show IntKind.i64.wrap (((i + 1 : Nat) : Int) - 1) = (i : Int) by rw [wid _ (by omega) (by omega)]; omega, Int.toNat_natCast, Int.natCast_nonneg, show (i : Int) < ((i + 1 : Nat) : Int) by omega, serO_at _ _ _ hii, serO_sizeT _ _ _ (Nat.le_of_lt hii), pwSL_getD (show i < i + 1 by omega), serO_snoc, hs, show i + 1 + 1 ≤ 1099511627776 by omega, show (i + 1 + 1) * 32 ≤ 140737488355328 by omega, wid ((i : Int) + 1) (by omega) (by omega)]; (first | refine hK _ _ _ (by simp only [go_sem, Nat.reduceEqDiff, ↓reduceIte]; rfl) ?_ | refine ⟨_, hT, hK _ _ _ (by simp only [go_sem, Nat.reduceEqDiff, ↓reduceIte]; rfl) ?_⟩); clear hK; clear K) | (with_reducible first | refine rgn_nil (by first | trivial | kernel_rfl) ?_ | refine AWP.seq ?_ | refine tX hC hP (by kernel_rfl) ?_ | refine aX hC hM hP (by kernel_rfl) ?_ | refine AWP.skip ?_ | refine AWP.label ?_ | refine AWP.exit ?_ | refine AWP.block ?_ | refine cTa ?_ | refine cFa ?_) | simp only [qS, Nat.reduceEqDiff, ↓reduceIte]))
      exact ⟨(i + 1, v + 1), by simp only; omega, by simp only; omega, by simp [Sub, lk]⟩
    · (repeat (first | ((with_reducible refine rgn_cons rfl (fun K hK => ?_)); simp only [go_sem, seval, ↓reduceIte, decide_true, decide_false, show ¬ (i : Int) < (d : Int) by omega, decide_false]; (refine hK _ _ _ (by simp only [go_sem, Nat.reduceEqDiff, ↓reduceIte]; rfl) ?_); clear hK; clear K) | (with_reducible first | refine rgn_nil (by first | trivial | kernel_rfl) ?_ | refine AWP.seq ?_ | refine tX hC hP (by kernel_rfl) ?_ | refine aX hC hM hP (by kernel_rfl) ?_ | refine AWP.skip ?_ | refine AWP.label ?_ | refine AWP.exit ?_ | refine AWP.block ?_ | refine cTa ?_ | refine cFa ?_) | simp only [qS, Nat.reduceEqDiff, ↓reduceIte]))
      (refine AWP.ret ?_; refine retOk1 (by simp only [go_sem, seval, ↓reduceIte, decide_true, decide_false]; rfl) ?_)
      rw [show i = d by omega]
set_option maxHeartbeats 1000000 in
theorem c_spec_l03Powers (m : Int) (l : List Int) (d : Nat) (hm : 1 < m) (hm2 : m ≤ 10000) (ha : ∀ x ∈ l, 0 ≤ x ∧ x < m) (hl : l.length = d + 1) (hd : d ≤ 1000) : AFn Tryz.prog 175 [.int .i64 m, .sl false 2 (intL l)] (.sl true 27 (rowsO (pwSL m l d (d + 1)))) := by
  refine AFn.of' ttOk (by decide) Tryz.func175 Tryz.ntmps175 (by rw [Tryz.results175]) (by rfl) (by rfl) (by simp) (by decide) (by simp only [go_sem, Nat.reduceAdd, ↓reduceIte]; rfl) mixed (fun C hP hM hC => ?_)
  have h0 : 0 < (tab (d + 1) (fun _ => 0)).length := by rw [tab_length]; omega
  (repeat (first | ((with_reducible refine rgn_cons rfl (fun K hK => ?_)); simp only [go_sem, seval, ↓reduceIte, decide_true, decide_false, hl, show IntKind.i64.wrap (((d + 1 : Nat) : Int) - 1) = (d : Int) by rw [wid _ (by omega) (by omega)]; omega, Int.toNat_natCast, Int.natCast_nonneg, show ((d + 1 : Nat) : Int) ≤ 1099511627776 by omega, intL_replicate, tab_zero, tab_length, Int.le_refl, Int.toNat_zero, show (0 : Int) < ((d + 1 : Nat) : Int) by omega, intL_get _ _ h0, List.take_zero, Nat.zero_mul, intL_modify, tab_set, oneL_of]; (refine hK _ _ _ (by simp only [go_sem, Nat.reduceEqDiff, ↓reduceIte]; rfl) ?_); clear hK; clear K) | (with_reducible first | refine rgn_nil (by first | trivial | kernel_rfl) ?_ | refine AWP.seq ?_ | refine tX hC hP (by kernel_rfl) ?_ | refine aX hC hM hP (by kernel_rfl) ?_ | refine AWP.skip ?_ | refine AWP.label ?_ | refine AWP.exit ?_ | refine AWP.block ?_ | refine cTa ?_ | refine cFa ?_) | simp only [qS, Nat.reduceEqDiff, ↓reduceIte]))
  refine AWP.loop (fun w : Nat × Nat => [(8, ⟨0, .val (.int .i64 w.1)⟩), (7, ⟨w.2, .own (.sl true 27 (rowsO (pwSL m l d (w.1 + 1))))⟩), (5, ⟨0, .val (.int .i64 d)⟩), (0, ⟨0, .val (.int .i64 m)⟩), (1, ⟨0, .val (.sl false 2 (intL l))⟩)]) (fun w => w.1 ≤ d) (fun w => d - w.1) (0, 1) (Nat.zero_le _) (fun i => rfl) ?_ (fun w hw => ?_)
  · simp [Sub, lk, pwSL, pwS, rowsO]
  · obtain ⟨i, v⟩ := w
    simp only at hw ⊢
    by_cases hi : i < d
    · have hp := pwS_facts hm l d i
      have hT := c_spec_l02Times m (pwS m l d i) l d (by omega) hm2 hp.2 ha (by omega) (by omega) (by omega)
      have hii : i < (pwSL m l d (i + 1)).length := by rw [pwSL_length]; omega
      have hs := pwSL_succ m l d (i + 1)
      rw [pwS] at hs
      (repeat (first | ((with_reducible refine rgn_cons rfl (fun K hK => ?_)); simp only [go_sem, seval, ↓reduceIte, decide_true, decide_false, show (i : Int) < (d : Int) by omega, decide_true, rowsO_length, pwSL_length, Int.toNat_natCast, Int.natCast_nonneg, show (i : Int) < ((i + 1 : Nat) : Int) by omega, rowsO_at _ _ hii, rowsO_sizeT _ _ (Nat.le_of_lt hii), Nat.mul_one, pwSL_getD (show i < i + 1 by omega), rowsO_snocT, hs, show i + 1 + 1 ≤ 1099511627776 by omega, show (i + 1 + 1) * 24 ≤ 140737488355328 by omega, wid ((i : Int) + 1) (by omega) (by omega)]; (first | refine hK _ _ _ (by simp only [go_sem, Nat.reduceEqDiff, ↓reduceIte]; rfl) ?_ | refine ⟨_, hT, hK _ _ _ (by simp only [go_sem, Nat.reduceEqDiff, ↓reduceIte]; rfl) ?_⟩); clear hK; clear K) | (with_reducible first | refine rgn_nil (by first | trivial | kernel_rfl) ?_ | refine AWP.seq ?_ | refine tX hC hP (by kernel_rfl) ?_ | refine aX hC hM hP (by kernel_rfl) ?_ | refine AWP.skip ?_ | refine AWP.label ?_ | refine AWP.exit ?_ | refine AWP.block ?_ | refine cTa ?_ | refine cFa ?_) | simp only [qS, Nat.reduceEqDiff, ↓reduceIte]))
      exact ⟨(i + 1, v + 1), by simp only; omega, by simp only; omega, by simp [Sub, lk]⟩
    · (repeat (first | ((with_reducible refine rgn_cons rfl (fun K hK => ?_)); simp only [go_sem, seval, ↓reduceIte, decide_true, decide_false, show ¬ (i : Int) < (d : Int) by omega, decide_false]; (refine hK _ _ _ (by simp only [go_sem, Nat.reduceEqDiff, ↓reduceIte]; rfl) ?_); clear hK; clear K) | (with_reducible first | refine rgn_nil (by first | trivial | kernel_rfl) ?_ | refine AWP.seq ?_ | refine tX hC hP (by kernel_rfl) ?_ | refine aX hC hM hP (by kernel_rfl) ?_ | refine AWP.skip ?_ | refine AWP.label ?_ | refine AWP.exit ?_ | refine AWP.block ?_ | refine cTa ?_ | refine cFa ?_) | simp only [qS, Nat.reduceEqDiff, ↓reduceIte]))
      (refine AWP.ret ?_; refine retOk1 (by simp only [go_sem, seval, ↓reduceIte, decide_true, decide_false]; rfl) ?_)
      rw [show i = d by omega]
end Go.Proofs.YtapdekacpecgiaaGreat
