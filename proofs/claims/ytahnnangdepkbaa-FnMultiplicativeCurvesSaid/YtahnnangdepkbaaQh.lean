/-
  Curves of a law.
-/
import Derived.Test.YtahnnangdepkbaaKl
import Derived.Test.YtahnnangdepkbaaQb
namespace Go.Proofs.Ytahnnangdepkbaa
open Go.RowKit
set_option linter.unusedSimpArgs false
set_option linter.unusedVariables false
set_option linter.unusedSectionVars false
set_option maxRecDepth 20000
-- Curves of a law.
def cuB (m : Int) (n : Nat) (m2 : Int) (l : List Int) : Bool := decide (m = m2 ∧ n = l.length) && (l.getD 0 0 == 0)
set_option maxHeartbeats 1000000 in
theorem c_impl_Plane_fits (m m2 : Int) (ll : List (List Int)) (l : List Int) (ha : ll.length ≤ 1099511627776) (hb : l.length ≤ 1099511627776) : AFn Try.prog 74 [.agg [.int .i64 m, .sl false 27 (rowsF ll)], .agg [.int .i64 m2, .sl false 2 (intL l)]] (.bool (decide (m = m2 ∧ ll.length = l.length))) := by
  refine AFn.of' ttOk (by decide) Try.func74 Try.ntmps74 (by rw [Try.results74]) (by rfl) (by rfl) (by simp) (by decide) (by simp only [go_sem, Nat.reduceAdd, ↓reduceIte]; rfl) mixed (fun C hP hM hC => ?_)
  have hD1 := c_impl_Plane_degree m ll ha
  have hD2 := c_impl_Series_degree m2 l hb
  by_cases h : m = m2
  · have b1 : (m == m2) = true := by simp [h]
    by_cases h2 : ll.length = l.length
    · (repeat (first | ((with_reducible refine rgn_cons rfl (fun K hK => ?_)); simp only [go_sem, seval, ↓reduceIte, decide_true, decide_false, b1, show (((ll.length : Int) - 1) == ((l.length : Int) - 1)) = true by rw [beq_iff_eq]; omega]; (first | refine hK _ _ _ (by simp only [go_sem, Nat.reduceEqDiff, ↓reduceIte]; rfl) ?_ | refine ⟨_, hD1, hK _ _ _ (by simp only [go_sem, Nat.reduceEqDiff, ↓reduceIte]; rfl) ?_⟩ | refine ⟨_, hD2, hK _ _ _ (by simp only [go_sem, Nat.reduceEqDiff, ↓reduceIte]; rfl) ?_⟩); clear hK; clear K) | (with_reducible first | refine rgn_nil (by first | trivial | kernel_rfl) ?_ | refine AWP.seq ?_ | refine tX hC hP (by kernel_rfl) ?_ | refine aX hC hM hP (by kernel_rfl) ?_ | refine AWP.skip ?_ | refine AWP.label ?_ | refine AWP.exit ?_ | refine AWP.block ?_ | refine cTa ?_ | refine cFa ?_) | simp only [qS, Nat.reduceEqDiff, ↓reduceIte]))
      (refine AWP.ret ?_; refine retOk1 (by simp only [go_sem, seval, ↓reduceIte, decide_true, decide_false]; rfl) ?_)
      rw [decide_eq_true ⟨h, h2⟩]
    · (repeat (first | ((with_reducible refine rgn_cons rfl (fun K hK => ?_)); simp only [go_sem, seval, ↓reduceIte, decide_true, decide_false, b1, show (((ll.length : Int) - 1) == ((l.length : Int) - 1)) = false by rw [beq_eq_false_iff_ne]; omega]; (first | refine hK _ _ _ (by simp only [go_sem, Nat.reduceEqDiff, ↓reduceIte]; rfl) ?_ | refine ⟨_, hD1, hK _ _ _ (by simp only [go_sem, Nat.reduceEqDiff, ↓reduceIte]; rfl) ?_⟩ | refine ⟨_, hD2, hK _ _ _ (by simp only [go_sem, Nat.reduceEqDiff, ↓reduceIte]; rfl) ?_⟩); clear hK; clear K) | (with_reducible first | refine rgn_nil (by first | trivial | kernel_rfl) ?_ | refine AWP.seq ?_ | refine tX hC hP (by kernel_rfl) ?_ | refine aX hC hM hP (by kernel_rfl) ?_ | refine AWP.skip ?_ | refine AWP.label ?_ | refine AWP.exit ?_ | refine AWP.block ?_ | refine cTa ?_ | refine cFa ?_) | simp only [qS, Nat.reduceEqDiff, ↓reduceIte]))
      (refine AWP.ret ?_; refine retOk1 (by simp only [go_sem, seval, ↓reduceIte, decide_true, decide_false]; rfl) ?_)
      rw [decide_eq_false (fun e => h2 e.2)]
  · have b1 : (m == m2) = false := by simp [h]
    (repeat (first | ((with_reducible refine rgn_cons rfl (fun K hK => ?_)); simp only [go_sem, seval, ↓reduceIte, decide_true, decide_false, b1]; (first | refine hK _ _ _ (by simp only [go_sem, Nat.reduceEqDiff, ↓reduceIte]; rfl) ?_ | refine ⟨_, hD1, hK _ _ _ (by simp only [go_sem, Nat.reduceEqDiff, ↓reduceIte]; rfl) ?_⟩ | refine ⟨_, hD2, hK _ _ _ (by simp only [go_sem, Nat.reduceEqDiff, ↓reduceIte]; rfl) ?_⟩); clear hK; clear K) | (with_reducible first | refine rgn_nil (by first | trivial | kernel_rfl) ?_ | refine AWP.seq ?_ | refine tX hC hP (by kernel_rfl) ?_ | refine aX hC hM hP (by kernel_rfl) ?_ | refine AWP.skip ?_ | refine AWP.label ?_ | refine AWP.exit ?_ | refine AWP.block ?_ | refine cTa ?_ | refine cFa ?_) | simp only [qS, Nat.reduceEqDiff, ↓reduceIte]))
    (refine AWP.ret ?_; refine retOk1 (by simp only [go_sem, seval, ↓reduceIte, decide_true, decide_false]; rfl) ?_)
    rw [decide_eq_false (fun e => h e.1)]
set_option maxHeartbeats 1000000 in
theorem c_impl_Plane_isCurveOf (m m2 : Int) (ll : List (List Int)) (l : List Int) (ha : ll.length ≤ 1099511627776) (hb : l.length ≤ 1099511627776) (h0 : 0 < l.length) : AFn Try.prog 54 [.agg [.int .i64 m, .sl false 27 (rowsF ll)], .agg [.int .i64 m2, .sl false 2 (intL l)]] (.bool (cuB m ll.length m2 l)) := by
  refine AFn.of' ttOk (by decide) Try.func54 Try.ntmps54 (by rw [Try.results54]) (by rfl) (by rfl) (by simp) (by decide) (by simp only [go_sem, Nat.reduceAdd, ↓reduceIte]; rfl) mixed (fun C hP hM hC => ?_)
  have hF := c_impl_Plane_fits m m2 ll l ha hb
  cases h1 : decide (m = m2 ∧ ll.length = l.length) with
  | false =>
    (repeat (first | ((with_reducible refine rgn_cons rfl (fun K hK => ?_)); simp only [go_sem, seval, ↓reduceIte, decide_true, decide_false, h1]; (first | refine hK _ _ _ (by simp only [go_sem, Nat.reduceEqDiff, ↓reduceIte]; rfl) ?_ | refine ⟨_, hF, hK _ _ _ (by simp only [go_sem, Nat.reduceEqDiff, ↓reduceIte]; rfl) ?_⟩); clear hK; clear K) | (with_reducible first | refine rgn_nil (by first | trivial | kernel_rfl) ?_ | refine AWP.seq ?_ | refine tX hC hP (by kernel_rfl) ?_ | refine aX hC hM hP (by kernel_rfl) ?_ | refine AWP.skip ?_ | refine AWP.label ?_ | refine AWP.exit ?_ | refine AWP.block ?_ | refine cTa ?_ | refine cFa ?_) | simp only [qS, Nat.reduceEqDiff, ↓reduceIte]))
    (refine AWP.ret ?_; refine retOk1 (by simp only [go_sem, seval, ↓reduceIte, decide_true, decide_false]; rfl) ?_)
    simp only [cuB, h1]; rfl
  | true =>
    (repeat (first | ((with_reducible refine rgn_cons rfl (fun K hK => ?_)); simp only [go_sem, seval, ↓reduceIte, decide_true, decide_false, h1, intL_getD l 0 h0, Int.toNat_zero, Int.le_refl, show (0 : Int) < (l.length : Int) by omega]; (first | refine hK _ _ _ (by simp only [go_sem, Nat.reduceEqDiff, ↓reduceIte]; rfl) ?_ | refine ⟨_, hF, hK _ _ _ (by simp only [go_sem, Nat.reduceEqDiff, ↓reduceIte]; rfl) ?_⟩); clear hK; clear K) | (with_reducible first | refine rgn_nil (by first | trivial | kernel_rfl) ?_ | refine AWP.seq ?_ | refine tX hC hP (by kernel_rfl) ?_ | refine aX hC hM hP (by kernel_rfl) ?_ | refine AWP.skip ?_ | refine AWP.label ?_ | refine AWP.exit ?_ | refine AWP.block ?_ | refine cTa ?_ | refine cFa ?_) | simp only [qS, Nat.reduceEqDiff, ↓reduceIte]))
    (refine AWP.ret ?_; refine retOk1 (by simp only [go_sem, seval, ↓reduceIte, decide_true, decide_false]; rfl) ?_)
    simp only [cuB, h1]; rfl
set_option maxHeartbeats 1000000 in
theorem c_slices_IndexFunc_impl_Series_impl_Series_one (m : Int) (l : List Int) (f : FuncId) (ys : List T) (hy : T.pureL ys = true) (g : FuncId) (a : List T) (hg2 : md g = []) (hg3 : g < 1000000) (b : Bool) (h : AFn Try.prog g a (.bool b)) (hf : g = f ∧ a = (.agg [.int .i64 m, .sl false 2 (intL l)]) :: ys) (hv : ∀ c : List T → Rd, resolveL ys c = c ys) : AFn Try.prog 83 [.sl false 36 [.agg [.int .i64 m, .sl false 2 (intL l)]], .fn f ys] (.int .i64 (if b then 0 else -1)) := by
  obtain ⟨hf1, hf2⟩ := hf
  subst hf1; subst hf2
  have hg' := hg2
  unfold md at hg'
  have hZ : T.freezeL ys = ys := pureL_freeze ys hy
  have hR : T.refFreeL ys = true := pureL_refFree ys hy
  have hN : T.noOwnL ys = true := pureL_noOwn ys hy
  refine AFn.of' ttOk (by decide) Try.func83 Try.ntmps83 (by rw [Try.results83]) (by rfl) (by rfl) (by simp) (by decide) (by simp only [go_sem, Nat.reduceAdd, ↓reduceIte, hN]; rfl) mixed (fun C hP hM hC => ?_)
  have hQ : ∀ S, T.refsInL S ys = true := fun S => pureL_refsIn S ys hy
  (repeat (first | ((with_reducible refine rgn_cons rfl (fun K hK => ?_)); simp only [go_sem, seval, ↓reduceIte, decide_true, decide_false, hR, hN, List.length_cons, List.length_nil, Nat.zero_add, Int.natCast_one]; (refine hK _ _ _ (by simp only [go_sem, Nat.reduceEqDiff, ↓reduceIte]; rfl) ?_); clear hK; clear K) | (with_reducible first | refine rgn_nil (by first | trivial | kernel_rfl) ?_ | refine AWP.seq ?_ | refine tX hC hP (by kernel_rfl) ?_ | refine aX hC hM hP (by kernel_rfl) ?_ | refine AWP.skip ?_ | refine AWP.label ?_ | refine AWP.exit ?_ | refine AWP.block ?_ | refine cTa ?_ | refine cFa ?_) | simp only [qS, Nat.reduceEqDiff, ↓reduceIte]))
  refine AWP.loop (fun i : Nat => [(8, ⟨0, .val (.int .i64 i)⟩), (7, ⟨0, .val (.int .i64 1)⟩), (0, ⟨0, .val (.sl false 36 [.agg [.int .i64 m, .sl false 2 (intL l)]])⟩), (1, ⟨0, .val (.fn g ys)⟩)]) (fun i => i ≤ 1 ∧ (i = 1 → b = false)) (fun i => 1 - i) 0 ⟨Nat.zero_le _, fun e => by omega⟩ (fun i => by simp [refsOk, SV.refsIn, T.refsIn, hQ, T.refsInL, intL_pure]) ?_ (fun i hi => ?_)
  · simp [Sub, lk]
  · by_cases hz : i = 0
    · subst hz
      cases b with
      | true =>
        (repeat (first | ((with_reducible refine rgn_cons rfl (fun K hK => ?_)); simp only [go_sem, seval, ↓reduceIte, decide_true, decide_false, hR, hN, hZ, hv, hg', hg3, Int.natCast_zero, show (0 : Int) < 1 by decide, decide_true, List.length_cons, List.length_nil, Nat.zero_add, Int.natCast_one, Int.toNat_zero, Int.le_refl, List.getD_cons_zero]; (first | refine hK _ _ _ (by simp only [go_sem, Nat.reduceEqDiff, ↓reduceIte]; rfl) ?_ | refine ⟨_, h, hK _ _ _ (by simp only [go_sem, Nat.reduceEqDiff, ↓reduceIte]; rfl) ?_⟩); clear hK; clear K) | (with_reducible first | refine rgn_nil (by first | trivial | kernel_rfl) ?_ | refine AWP.seq ?_ | refine tX hC hP (by kernel_rfl) ?_ | refine aX hC hM hP (by kernel_rfl) ?_ | refine AWP.skip ?_ | refine AWP.label ?_ | refine AWP.exit ?_ | refine AWP.block ?_ | refine cTa ?_ | refine cFa ?_) | simp only [qS, Nat.reduceEqDiff, ↓reduceIte]))
        (refine AWP.ret ?_; refine retOk1 (by simp only [go_sem, seval, ↓reduceIte, decide_true, decide_false]; rfl) ?_)
        rfl
      | false =>
        (repeat (first | ((with_reducible refine rgn_cons rfl (fun K hK => ?_)); simp only [go_sem, seval, ↓reduceIte, decide_true, decide_false, hR, hN, hZ, hv, hg', hg3, Int.natCast_zero, show (0 : Int) < 1 by decide, decide_true, List.length_cons, List.length_nil, Nat.zero_add, Int.natCast_one, Int.toNat_zero, Int.le_refl, List.getD_cons_zero, show IntKind.i64.wrap ((0 : Int) + 1) = 1 from rfl]; (first | refine hK _ _ _ (by simp only [go_sem, Nat.reduceEqDiff, ↓reduceIte]; rfl) ?_ | refine ⟨_, h, hK _ _ _ (by simp only [go_sem, Nat.reduceEqDiff, ↓reduceIte]; rfl) ?_⟩); clear hK; clear K) | (with_reducible first | refine rgn_nil (by first | trivial | kernel_rfl) ?_ | refine AWP.seq ?_ | refine tX hC hP (by kernel_rfl) ?_ | refine aX hC hM hP (by kernel_rfl) ?_ | refine AWP.skip ?_ | refine AWP.label ?_ | refine AWP.exit ?_ | refine AWP.block ?_ | refine cTa ?_ | refine cFa ?_) | simp only [qS, Nat.reduceEqDiff, ↓reduceIte]))
        exact ⟨1, ⟨Nat.le_refl _, fun _ => by simp⟩, by omega, by simp [Sub, lk, show IntKind.i64.wrap 1 = 1 by decide]⟩
    · have e : i = 1 := by omega
      subst e
      (repeat (first | ((with_reducible refine rgn_cons rfl (fun K hK => ?_)); simp only [go_sem, seval, ↓reduceIte, decide_true, decide_false, Int.natCast_one, show ¬ (1 : Int) < 1 by decide, decide_false]; (refine hK _ _ _ (by simp only [go_sem, Nat.reduceEqDiff, ↓reduceIte]; rfl) ?_); clear hK; clear K) | (with_reducible first | refine rgn_nil (by first | trivial | kernel_rfl) ?_ | refine AWP.seq ?_ | refine tX hC hP (by kernel_rfl) ?_ | refine aX hC hM hP (by kernel_rfl) ?_ | refine AWP.skip ?_ | refine AWP.label ?_ | refine AWP.exit ?_ | refine AWP.block ?_ | refine cTa ?_ | refine cFa ?_) | simp only [qS, Nat.reduceEqDiff, ↓reduceIte]))
      (refine AWP.ret ?_; refine retOk1 (by simp only [go_sem, seval, ↓reduceIte, decide_true, decide_false]; rfl) ?_)
      rw [hi.2 rfl]; rfl
set_option maxHeartbeats 1000000 in
theorem c_slices_ContainsFunc_impl_Series_impl_Series_one (m : Int) (l : List Int) (g : FuncId) (ys : List T) (hgl : g < 1000000) (hg : md g = []) (hy : T.pureL ys = true) (hv : ∀ c : List T → Rd, resolveL ys c = c ys) (b : Bool) (h : AFn Try.prog g ((.agg [.int .i64 m, .sl false 2 (intL l)]) :: ys) (.bool b)) : AFn Try.prog 71 [.sl false 36 [.agg [.int .i64 m, .sl false 2 (intL l)]], .fn g ys] (.bool b) := by
  have hg' := hg
  unfold md at hg'
  have hZ : T.freezeL ys = ys := pureL_freeze ys hy
  have hR : T.refFreeL ys = true := pureL_refFree ys hy
  have hN : T.noOwnL ys = true := pureL_noOwn ys hy
  refine AFn.of' ttOk (by decide) Try.func71 Try.ntmps71 (by rw [Try.results71]) (by rfl) (by rfl) (by simp) (by decide) (by simp only [go_sem, Nat.reduceAdd, ↓reduceIte, hN]; rfl) mixed (fun C hP hM hC => ?_)
  cases b with
  | true =>
    (repeat (first | ((with_reducible refine rgn_cons rfl (fun K hK => ?_)); simp only [go_sem, seval, ↓reduceIte, decide_true, decide_false, hR, hN, hZ, hv, hg', hgl]; (first | refine hK _ _ _ (by simp only [go_sem, Nat.reduceEqDiff, ↓reduceIte]; rfl) ?_ | refine ⟨_, c_slices_IndexFunc_impl_Series_impl_Series_one m l g ys hy g _ hg hgl true h ⟨rfl, rfl⟩ hv, hK _ _ _ (by simp only [go_sem, Nat.reduceEqDiff, ↓reduceIte]; rfl) ?_⟩); clear hK; clear K) | (with_reducible first | refine rgn_nil (by first | trivial | kernel_rfl) ?_ | refine AWP.seq ?_ | refine tX hC hP (by kernel_rfl) ?_ | refine aX hC hM hP (by kernel_rfl) ?_ | refine AWP.skip ?_ | refine AWP.label ?_ | refine AWP.exit ?_ | refine AWP.block ?_ | refine cTa ?_ | refine cFa ?_) | simp only [qS, Nat.reduceEqDiff, ↓reduceIte]))
    (refine AWP.ret ?_; refine retOk1 (by simp only [go_sem, seval, ↓reduceIte, decide_true, decide_false]; rfl) ?_)
    rfl
  | false =>
    (repeat (first | ((with_reducible refine rgn_cons rfl (fun K hK => ?_)); simp only [go_sem, seval, ↓reduceIte, decide_true, decide_false, hR, hN, hZ, hv, hg', hgl]; (first | refine hK _ _ _ (by simp only [go_sem, Nat.reduceEqDiff, ↓reduceIte]; rfl) ?_ | refine ⟨_, c_slices_IndexFunc_impl_Series_impl_Series_one m l g ys hy g _ hg hgl false h ⟨rfl, rfl⟩ hv, hK _ _ _ (by simp only [go_sem, Nat.reduceEqDiff, ↓reduceIte]; rfl) ?_⟩); clear hK; clear K) | (with_reducible first | refine rgn_nil (by first | trivial | kernel_rfl) ?_ | refine AWP.seq ?_ | refine tX hC hP (by kernel_rfl) ?_ | refine aX hC hM hP (by kernel_rfl) ?_ | refine AWP.skip ?_ | refine AWP.label ?_ | refine AWP.exit ?_ | refine AWP.block ?_ | refine cTa ?_ | refine cFa ?_) | simp only [qS, Nat.reduceEqDiff, ↓reduceIte]))
    (refine AWP.ret ?_; refine retOk1 (by simp only [go_sem, seval, ↓reduceIte, decide_true, decide_false]; rfl) ?_)
    rfl
set_option maxHeartbeats 1000000 in
theorem c_impl_all_impl_Series_1_ser (m : Int) (l : List Int) (hl : l.length ≤ 1099511627776) : AFn Try.prog 72 [.agg [.int .i64 m, .sl false 2 (intL l)], .fptr (.fn 53 [])] (.bool (!isSer m l)) := by
  refine AFn.of' ttOk (by decide) Try.func72 Try.ntmps72 (by rw [Try.results72]) (by rfl) (by rfl) (by simp) (by decide) (by simp only [go_sem, Nat.reduceAdd, ↓reduceIte]; rfl) mixed (fun C hP hM hC => ?_)
  (repeat (first | ((with_reducible refine rgn_cons rfl (fun K hK => ?_)); simp only [go_sem, seval, ↓reduceIte, decide_true, decide_false]; (first | refine hK _ _ _ (by simp only [go_sem, Nat.reduceEqDiff, ↓reduceIte]; rfl) ?_ | refine ⟨_, c_impl_IsSeries m l hl, hK _ _ _ (by simp only [go_sem, Nat.reduceEqDiff, ↓reduceIte]; rfl) ?_⟩); clear hK; clear K) | (with_reducible first | refine rgn_nil (by first | trivial | kernel_rfl) ?_ | refine AWP.seq ?_ | refine tX hC hP (by kernel_rfl) ?_ | refine aX hC hM hP (by kernel_rfl) ?_ | refine AWP.skip ?_ | refine AWP.label ?_ | refine AWP.exit ?_ | refine AWP.block ?_ | refine cTa ?_ | refine cFa ?_) | simp only [qS, Nat.reduceEqDiff, ↓reduceIte]))
  (refine AWP.ret ?_; refine retOk1 (by simp only [go_sem, seval, ↓reduceIte, decide_true, decide_false]; rfl) ?_)
  rfl
set_option maxHeartbeats 1000000 in
theorem c_impl_all_impl_Series_ser (m : Int) (l : List Int) (hl : l.length ≤ 1099511627776) : AFn Try.prog 52 [.sl false 36 [.agg [.int .i64 m, .sl false 2 (intL l)]], .fn 53 []] (.bool (isSer m l)) := by
  refine AFn.of' ttOk (by decide) Try.func52 Try.ntmps52 (by rw [Try.results52]) (by rfl) (by rfl) (by simp) (by decide) (by simp only [go_sem, Nat.reduceAdd, ↓reduceIte]; rfl) mixed (fun C hP hM hC => ?_)
  (repeat (first | ((with_reducible refine rgn_cons rfl (fun K hK => ?_)); simp only [go_sem, seval, ↓reduceIte, decide_true, decide_false]; (first | refine hK _ _ _ (by simp only [go_sem, Nat.reduceEqDiff, ↓reduceIte]; rfl) ?_ | refine ⟨_, c_slices_ContainsFunc_impl_Series_impl_Series_one m l 72 [.fptr (.fn 53 [])] (by decide) (by rfl) (by rfl) (fun c => rfl) (!isSer m l) (c_impl_all_impl_Series_1_ser m l hl), hK _ _ _ (by simp only [go_sem, Nat.reduceEqDiff, ↓reduceIte]; rfl) ?_⟩); clear hK; clear K) | (with_reducible first | refine rgn_nil (by first | trivial | kernel_rfl) ?_ | refine AWP.seq ?_ | refine tX hC hP (by kernel_rfl) ?_ | refine aX hC hM hP (by kernel_rfl) ?_ | refine AWP.skip ?_ | refine AWP.label ?_ | refine AWP.exit ?_ | refine AWP.block ?_ | refine cTa ?_ | refine cFa ?_) | simp only [qS, Nat.reduceEqDiff, ↓reduceIte]))
  (refine AWP.ret ?_; refine retOk1 (by simp only [go_sem, seval, ↓reduceIte, decide_true, decide_false]; rfl) ?_)
  rw [Bool.not_not]
set_option maxHeartbeats 1000000 in
theorem c_impl_all_impl_Series_1_cur (m m2 : Int) (ll : List (List Int)) (l : List Int) (ha : ll.length ≤ 1099511627776) (hl : l.length ≤ 1099511627776) (h0 : 0 < l.length) : AFn Try.prog 72 [.agg [.int .i64 m2, .sl false 2 (intL l)], .fptr (.fn 1000054 [.agg [.int .i64 m, .sl false 27 (rowsF ll)]])] (.bool (!cuB m ll.length m2 l)) := by
  refine AFn.of' ttOk (by decide) Try.func72 Try.ntmps72 (by rw [Try.results72]) (by rfl) (by rfl) (by simp) (by decide) (by simp only [go_sem, Nat.reduceAdd, ↓reduceIte]; rfl) mixed (fun C hP hM hC => ?_)
  (repeat (first | ((with_reducible refine rgn_cons rfl (fun K hK => ?_)); simp only [go_sem, seval, ↓reduceIte, decide_true, decide_false]; (first | refine hK _ _ _ (by simp only [go_sem, Nat.reduceEqDiff, ↓reduceIte]; rfl) ?_ | refine ⟨_, c_impl_Plane_isCurveOf m m2 ll l ha hl h0, hK _ _ _ (by simp only [go_sem, Nat.reduceEqDiff, ↓reduceIte]; rfl) ?_⟩); clear hK; clear K) | (with_reducible first | refine rgn_nil (by first | trivial | kernel_rfl) ?_ | refine AWP.seq ?_ | refine tX hC hP (by kernel_rfl) ?_ | refine aX hC hM hP (by kernel_rfl) ?_ | refine AWP.skip ?_ | refine AWP.label ?_ | refine AWP.exit ?_ | refine AWP.block ?_ | refine cTa ?_ | refine cFa ?_) | simp only [qS, Nat.reduceEqDiff, ↓reduceIte]))
  (refine AWP.ret ?_; refine retOk1 (by simp only [go_sem, seval, ↓reduceIte, decide_true, decide_false]; rfl) ?_)
  rfl
set_option maxHeartbeats 1000000 in
theorem c_impl_all_impl_Series_cur (m m2 : Int) (ll : List (List Int)) (l : List Int) (ha : ll.length ≤ 1099511627776) (hl : l.length ≤ 1099511627776) (h0 : 0 < l.length) : AFn Try.prog 52 [.sl false 36 [.agg [.int .i64 m2, .sl false 2 (intL l)]], .fn 1000054 [.agg [.int .i64 m, .sl false 27 (rowsF ll)]]] (.bool (cuB m ll.length m2 l)) := by
  refine AFn.of' ttOk (by decide) Try.func52 Try.ntmps52 (by rw [Try.results52]) (by rfl) (by rfl) (by simp) (by decide) (by simp only [go_sem, Nat.reduceAdd, ↓reduceIte]; rfl) mixed (fun C hP hM hC => ?_)
  (repeat (first | ((with_reducible refine rgn_cons rfl (fun K hK => ?_)); simp only [go_sem, seval, ↓reduceIte, decide_true, decide_false, rowsF_pure]; (first | refine hK _ _ _ (by simp only [go_sem, Nat.reduceEqDiff, ↓reduceIte]; rfl) ?_ | refine ⟨_, c_slices_ContainsFunc_impl_Series_impl_Series_one m2 l 72 [.fptr (.fn 1000054 [.agg [.int .i64 m, .sl false 27 (rowsF ll)]])] (by decide) (by rfl) (by simp [T.pureL, T.pure, rowsF_pure]) (fun c => rfl) (!cuB m ll.length m2 l) (c_impl_all_impl_Series_1_cur m m2 ll l ha hl h0), hK _ _ _ (by simp only [go_sem, Nat.reduceEqDiff, ↓reduceIte]; rfl) ?_⟩); clear hK; clear K) | (with_reducible first | refine rgn_nil (by first | trivial | kernel_rfl) ?_ | refine AWP.seq ?_ | refine tX hC hP (by kernel_rfl) ?_ | refine aX hC hM hP (by kernel_rfl) ?_ | refine AWP.skip ?_ | refine AWP.label ?_ | refine AWP.exit ?_ | refine AWP.block ?_ | refine cTa ?_ | refine cFa ?_) | simp only [qS, Nat.reduceEqDiff, ↓reduceIte]))
  (refine AWP.ret ?_; refine retOk1 (by simp only [go_sem, seval, ↓reduceIte, decide_true, decide_false]; rfl) ?_)
  rw [Bool.not_not]
noncomputable def cuC (m : Int) (ll : List (List Int)) (m2 : Int) (l : List Int) : Int := if lawB m ll = true then (if isSer m2 l = true then (if cuB m ll.length m2 l = true then 0 else 2) else 1) else 1
set_option maxHeartbeats 1000000 in
theorem c_impl_curved_one (m m2 : Int) (ll : List (List Int)) (l : List Int) (hs : Sm ll) (hl : l.length ≤ 1099511627776) : AFn Try.prog 20 [.agg [.int .i64 m, .sl false 27 (rowsF ll)], .sl false 36 [.agg [.int .i64 m2, .sl false 2 (intL l)]]] (.int .i64 (cuC m ll m2 l)) := by
  refine AFn.of' ttOk (by decide) Try.func20 Try.ntmps20 (by rw [Try.results20]) (by rfl) (by rfl) (by simp) (by decide) (by simp only [go_sem, Nat.reduceAdd, ↓reduceIte]; rfl) mixed (fun C hP hM hC => ?_)
  have hA := c_impl_IsLaw m ll hs
  have hS := c_impl_all_impl_Series_ser m2 l hl
  cases h1 : lawB m ll with
  | false =>
    (repeat (first | ((with_reducible refine rgn_cons rfl (fun K hK => ?_)); simp only [go_sem, seval, ↓reduceIte, decide_true, decide_false, h1]; (first | refine hK _ _ _ (by simp only [go_sem, Nat.reduceEqDiff, ↓reduceIte]; rfl) ?_ | refine ⟨_, hA, hK _ _ _ (by simp only [go_sem, Nat.reduceEqDiff, ↓reduceIte]; rfl) ?_⟩ | refine ⟨_, hS, hK _ _ _ (by simp only [go_sem, Nat.reduceEqDiff, ↓reduceIte]; rfl) ?_⟩); clear hK; clear K) | (with_reducible first | refine rgn_nil (by first | trivial | kernel_rfl) ?_ | refine AWP.seq ?_ | refine tX hC hP (by kernel_rfl) ?_ | refine aX hC hM hP (by kernel_rfl) ?_ | refine AWP.skip ?_ | refine AWP.label ?_ | refine AWP.exit ?_ | refine AWP.block ?_ | refine cTa ?_ | refine cFa ?_) | simp only [qS, Nat.reduceEqDiff, ↓reduceIte]))
    (refine AWP.ret ?_; refine retOk1 (by simp only [go_sem, seval, ↓reduceIte, decide_true, decide_false]; rfl) ?_)
    simp [cuC, h1]
  | true =>
    cases h2 : isSer m2 l with
    | false =>
      (repeat (first | ((with_reducible refine rgn_cons rfl (fun K hK => ?_)); simp only [go_sem, seval, ↓reduceIte, decide_true, decide_false, h1, h2]; (first | refine hK _ _ _ (by simp only [go_sem, Nat.reduceEqDiff, ↓reduceIte]; rfl) ?_ | refine ⟨_, hA, hK _ _ _ (by simp only [go_sem, Nat.reduceEqDiff, ↓reduceIte]; rfl) ?_⟩ | refine ⟨_, hS, hK _ _ _ (by simp only [go_sem, Nat.reduceEqDiff, ↓reduceIte]; rfl) ?_⟩); clear hK; clear K) | (with_reducible first | refine rgn_nil (by first | trivial | kernel_rfl) ?_ | refine AWP.seq ?_ | refine tX hC hP (by kernel_rfl) ?_ | refine aX hC hM hP (by kernel_rfl) ?_ | refine AWP.skip ?_ | refine AWP.label ?_ | refine AWP.exit ?_ | refine AWP.block ?_ | refine cTa ?_ | refine cFa ?_) | simp only [qS, Nat.reduceEqDiff, ↓reduceIte]))
      (refine AWP.ret ?_; refine retOk1 (by simp only [go_sem, seval, ↓reduceIte, decide_true, decide_false]; rfl) ?_)
      simp [cuC, h1, h2]
    | true =>
      have hU := c_impl_all_impl_Series_cur m m2 ll l (by have := hs.1; omega) hl (by have := isSer_len h2; omega)
      cases h3 : cuB m ll.length m2 l with
      | false =>
        (repeat (first | ((with_reducible refine rgn_cons rfl (fun K hK => ?_)); simp only [go_sem, seval, ↓reduceIte, decide_true, decide_false, h1, h2, h3]; (first | refine hK _ _ _ (by simp only [go_sem, Nat.reduceEqDiff, ↓reduceIte]; rfl) ?_ | refine ⟨_, hA, hK _ _ _ (by simp only [go_sem, Nat.reduceEqDiff, ↓reduceIte]; rfl) ?_⟩ | refine ⟨_, hS, hK _ _ _ (by simp only [go_sem, Nat.reduceEqDiff, ↓reduceIte]; rfl) ?_⟩ | refine ⟨_, hU, hK _ _ _ (by simp only [go_sem, Nat.reduceEqDiff, ↓reduceIte]; rfl) ?_⟩); clear hK; clear K) | (with_reducible first | refine rgn_nil (by first | trivial | kernel_rfl) ?_ | refine AWP.seq ?_ | refine tX hC hP (by kernel_rfl) ?_ | refine aX hC hM hP (by kernel_rfl) ?_ | refine AWP.skip ?_ | refine AWP.label ?_ | refine AWP.exit ?_ | refine AWP.block ?_ | refine cTa ?_ | refine cFa ?_) | simp only [qS, Nat.reduceEqDiff, ↓reduceIte]))
        (refine AWP.ret ?_; refine retOk1 (by simp only [go_sem, seval, ↓reduceIte, decide_true, decide_false]; rfl) ?_)
        simp [cuC, h1, h2, h3]
      | true =>
        (repeat (first | ((with_reducible refine rgn_cons rfl (fun K hK => ?_)); simp only [go_sem, seval, ↓reduceIte, decide_true, decide_false, h1, h2, h3]; (first | refine hK _ _ _ (by simp only [go_sem, Nat.reduceEqDiff, ↓reduceIte]; rfl) ?_ | refine ⟨_, hA, hK _ _ _ (by simp only [go_sem, Nat.reduceEqDiff, ↓reduceIte]; rfl) ?_⟩ | refine ⟨_, hS, hK _ _ _ (by simp only [go_sem, Nat.reduceEqDiff, ↓reduceIte]; rfl) ?_⟩ | refine ⟨_, hU, hK _ _ _ (by simp only [go_sem, Nat.reduceEqDiff, ↓reduceIte]; rfl) ?_⟩); clear hK; clear K) | (with_reducible first | refine rgn_nil (by first | trivial | kernel_rfl) ?_ | refine AWP.seq ?_ | refine tX hC hP (by kernel_rfl) ?_ | refine aX hC hM hP (by kernel_rfl) ?_ | refine AWP.skip ?_ | refine AWP.label ?_ | refine AWP.exit ?_ | refine AWP.block ?_ | refine cTa ?_ | refine cFa ?_) | simp only [qS, Nat.reduceEqDiff, ↓reduceIte]))
        (refine AWP.ret ?_; refine retOk1 (by simp only [go_sem, seval, ↓reduceIte, decide_true, decide_false]; rfl) ?_)
        simp [cuC, h1, h2, h3]

end Go.Proofs.Ytahnnangdepkbaa
