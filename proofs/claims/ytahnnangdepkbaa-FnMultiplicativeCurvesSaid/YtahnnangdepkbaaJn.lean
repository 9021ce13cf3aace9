/-
  Sums and Frobenius of curves.
-/
import Derived.Test.YtahnnangdepkbaaJm
import Derived.Test.YtahnnangdepkbaaQh
namespace Go.Proofs.Ytahnnangdepkbaa
open Go.RowKit
set_option linter.unusedSimpArgs false
set_option linter.unusedVariables false
set_option linter.unusedSectionVars false
set_option maxRecDepth 20000
-- Sums and Frobenius of curves.
set_option maxHeartbeats 1000000 in
theorem c_slices_IndexFunc_impl_Series_impl_Series_two (m : Int) (l l2 : List Int) (f : FuncId) (ys : List T) (hy : T.pureL ys = true) (g : FuncId) (a a2 : List T) (hg2 : md g = []) (hg3 : g < 1000000) (h : AFn Try.prog g a (.bool false)) (h2 : AFn Try.prog g a2 (.bool false)) (hf : g = f ∧ a = (.agg [.int .i64 m, .sl false 2 (intL l)]) :: ys ∧ a2 = (.agg [.int .i64 m, .sl false 2 (intL l2)]) :: ys) (hv : ∀ c : List T → Rd, resolveL ys c = c ys) : AFn Try.prog 83 [.sl false 36 [.agg [.int .i64 m, .sl false 2 (intL l)], .agg [.int .i64 m, .sl false 2 (intL l2)]], .fn f ys] (.int .i64 (-1)) := by
  obtain ⟨hf1, hf2, hf3⟩ := hf
  subst hf1; subst hf2; subst hf3
  have hg' := hg2
  unfold md at hg'
  have hZ : T.freezeL ys = ys := pureL_freeze ys hy
  have hR : T.refFreeL ys = true := pureL_refFree ys hy
  have hN : T.noOwnL ys = true := pureL_noOwn ys hy
  refine AFn.of' ttOk (by decide) Try.func83 Try.ntmps83 (by rw [Try.results83]) (by rfl) (by rfl) (by simp) (by decide) (by simp only [go_sem, Nat.reduceAdd, ↓reduceIte, hN]; rfl) mixed (fun C hP hM hC => ?_)
  have hQ : ∀ S, T.refsInL S ys = true := fun S => pureL_refsIn S ys hy
  (repeat (first | ((with_reducible refine rgn_cons rfl (fun K hK => ?_)); simp only [go_sem, seval, ↓reduceIte, decide_true, decide_false, hR, hN, List.length_cons, List.length_nil, Nat.zero_add]; (refine hK _ _ _ (by simp only [go_sem, Nat.reduceEqDiff, ↓reduceIte]; rfl) ?_); clear hK; clear K) | (with_reducible first | refine rgn_nil (by first | trivial | kernel_rfl) ?_ | refine AWP.seq ?_ | refine tX hC hP (by kernel_rfl) ?_ | refine aX hC hM hP (by kernel_rfl) ?_ | refine AWP.skip ?_ | refine AWP.label ?_ | refine AWP.exit ?_ | refine AWP.block ?_ | refine cTa ?_ | refine cFa ?_) | simp only [qS, Nat.reduceEqDiff, ↓reduceIte]))
  refine AWP.loop (fun i : Nat => [(8, ⟨0, .val (.int .i64 i)⟩), (7, ⟨0, .val (.int .i64 (1 + 1 : Nat))⟩), (0, ⟨0, .val (.sl false 36 [.agg [.int .i64 m, .sl false 2 (intL l)], .agg [.int .i64 m, .sl false 2 (intL l2)]])⟩), (1, ⟨0, .val (.fn g ys)⟩)]) (fun i => i ≤ 2) (fun i => 2 - i) 0 (Nat.zero_le _) (fun i => by simp [refsOk, SV.refsIn, T.refsIn, hQ, T.refsInL, intL_pure]) ?_ (fun i hi => ?_)
  · simp [Sub, lk]
  · obtain ⟨two, htwo⟩ : ∃ two : Int, ((1 + 1 : Nat) : Int) = two := ⟨_, rfl⟩
    rw [htwo]
    by_cases hz : i = 0
    · subst hz
      (repeat (first | ((with_reducible refine rgn_cons rfl (fun K hK => ?_)); simp only [go_sem, seval, ↓reduceIte, decide_true, decide_false, hR, hN, hZ, hv, hg', hg3, Int.natCast_zero, show (0 : Int) < two by omega, decide_true, List.length_cons, List.length_nil, Nat.zero_add, htwo, Int.toNat_zero, Int.le_refl, List.getD_cons_zero, show IntKind.i64.wrap ((0 : Int) + 1) = 1 from rfl]; (first | refine hK _ _ _ (by simp only [go_sem, Nat.reduceEqDiff, ↓reduceIte]; rfl) ?_ | refine ⟨_, h, hK _ _ _ (by simp only [go_sem, Nat.reduceEqDiff, ↓reduceIte]; rfl) ?_⟩); clear hK; clear K) | (with_reducible first | refine rgn_nil (by first | trivial | kernel_rfl) ?_ | refine AWP.seq ?_ | refine tX hC hP (by kernel_rfl) ?_ | refine aX hC hM hP (by kernel_rfl) ?_ | refine AWP.skip ?_ | refine AWP.label ?_ | refine AWP.exit ?_ | refine AWP.block ?_ | refine cTa ?_ | refine cFa ?_) | simp only [qS, Nat.reduceEqDiff, ↓reduceIte]))
      exact ⟨1, by omega, by omega, by simp [Sub, lk, htwo, show IntKind.i64.wrap 1 = 1 by decide]⟩
    · by_cases hz2 : i = 1
      · subst hz2
        (repeat (first | ((with_reducible refine rgn_cons rfl (fun K hK => ?_)); simp only [go_sem, seval, ↓reduceIte, decide_true, decide_false, hR, hN, hZ, hv, hg', hg3, Int.natCast_one, show (1 : Int) < two by omega, decide_true, List.length_cons, List.length_nil, Nat.zero_add, htwo, show (0 : Int) ≤ 1 by decide, show (1 : Int).toNat = 1 from rfl, List.getD_cons_succ, List.getD_cons_zero, show IntKind.i64.wrap ((1 : Int) + 1) = 2 from rfl]; (first | refine hK _ _ _ (by simp only [go_sem, Nat.reduceEqDiff, ↓reduceIte]; rfl) ?_ | refine ⟨_, h2, hK _ _ _ (by simp only [go_sem, Nat.reduceEqDiff, ↓reduceIte]; rfl) ?_⟩); clear hK; clear K) | (with_reducible first | refine rgn_nil (by first | trivial | kernel_rfl) ?_ | refine AWP.seq ?_ | refine tX hC hP (by kernel_rfl) ?_ | refine aX hC hM hP (by kernel_rfl) ?_ | refine AWP.skip ?_ | refine AWP.label ?_ | refine AWP.exit ?_ | refine AWP.block ?_ | refine cTa ?_ | refine cFa ?_) | simp only [qS, Nat.reduceEqDiff, ↓reduceIte]))
        exact ⟨2, by omega, by omega, by simp [Sub, lk, htwo, show IntKind.i64.wrap 2 = 2 by decide]; omega⟩
      · have e : i = 2 := by omega
        (repeat (first | ((with_reducible refine rgn_cons rfl (fun K hK => ?_)); simp only [go_sem, seval, ↓reduceIte, decide_true, decide_false, show ¬ (i : Int) < two by omega, decide_false]; (refine hK _ _ _ (by simp only [go_sem, Nat.reduceEqDiff, ↓reduceIte]; rfl) ?_); clear hK; clear K) | (with_reducible first | refine rgn_nil (by first | trivial | kernel_rfl) ?_ | refine AWP.seq ?_ | refine tX hC hP (by kernel_rfl) ?_ | refine aX hC hM hP (by kernel_rfl) ?_ | refine AWP.skip ?_ | refine AWP.label ?_ | refine AWP.exit ?_ | refine AWP.block ?_ | refine cTa ?_ | refine cFa ?_) | simp only [qS, Nat.reduceEqDiff, ↓reduceIte]))
        (refine AWP.ret ?_; refine retOk1 (by simp only [go_sem, seval, ↓reduceIte, decide_true, decide_false]; rfl) ?_)
        rfl
set_option maxHeartbeats 1000000 in
theorem c_slices_ContainsFunc_impl_Series_impl_Series_two (m : Int) (l l2 : List Int) (g : FuncId) (ys : List T) (hgl : g < 1000000) (hg : md g = []) (hy : T.pureL ys = true) (hv : ∀ c : List T → Rd, resolveL ys c = c ys) (h : AFn Try.prog g ((.agg [.int .i64 m, .sl false 2 (intL l)]) :: ys) (.bool false)) (h2 : AFn Try.prog g ((.agg [.int .i64 m, .sl false 2 (intL l2)]) :: ys) (.bool false)) : AFn Try.prog 71 [.sl false 36 [.agg [.int .i64 m, .sl false 2 (intL l)], .agg [.int .i64 m, .sl false 2 (intL l2)]], .fn g ys] (.bool false) := by
  have hg' := hg
  unfold md at hg'
  have hZ : T.freezeL ys = ys := pureL_freeze ys hy
  have hR : T.refFreeL ys = true := pureL_refFree ys hy
  have hN : T.noOwnL ys = true := pureL_noOwn ys hy
  refine AFn.of' ttOk (by decide) Try.func71 Try.ntmps71 (by rw [Try.results71]) (by rfl) (by rfl) (by simp) (by decide) (by simp only [go_sem, Nat.reduceAdd, ↓reduceIte, hN]; rfl) mixed (fun C hP hM hC => ?_)
  (repeat (first | ((with_reducible refine rgn_cons rfl (fun K hK => ?_)); simp only [go_sem, seval, ↓reduceIte, decide_true, decide_false, hR, hN, hZ, hv, hg', hgl]; (first | refine hK _ _ _ (by simp only [go_sem, Nat.reduceEqDiff, ↓reduceIte]; rfl) ?_ | refine ⟨_, c_slices_IndexFunc_impl_Series_impl_Series_two m l l2 g ys hy g _ _ hg hgl h h2 ⟨rfl, rfl, rfl⟩ hv, hK _ _ _ (by simp only [go_sem, Nat.reduceEqDiff, ↓reduceIte]; rfl) ?_⟩); clear hK; clear K) | (with_reducible first | refine rgn_nil (by first | trivial | kernel_rfl) ?_ | refine AWP.seq ?_ | refine tX hC hP (by kernel_rfl) ?_ | refine aX hC hM hP (by kernel_rfl) ?_ | refine AWP.skip ?_ | refine AWP.label ?_ | refine AWP.exit ?_ | refine AWP.block ?_ | refine cTa ?_ | refine cFa ?_) | simp only [qS, Nat.reduceEqDiff, ↓reduceIte]))
  (refine AWP.ret ?_; refine retOk1 (by simp only [go_sem, seval, ↓reduceIte, decide_true, decide_false]; rfl) ?_)
  rfl
set_option maxHeartbeats 1000000 in
theorem c_impl_all_impl_Series_ser2 (m : Int) (l l2 : List Int) (hl : l.length ≤ 1099511627776) (hl2 : l2.length ≤ 1099511627776) (h1 : isSer m l = true) (h2 : isSer m l2 = true) : AFn Try.prog 52 [.sl false 36 [.agg [.int .i64 m, .sl false 2 (intL l)], .agg [.int .i64 m, .sl false 2 (intL l2)]], .fn 53 []] (.bool true) := by
  refine AFn.of' ttOk (by decide) Try.func52 Try.ntmps52 (by rw [Try.results52]) (by rfl) (by rfl) (by simp) (by decide) (by simp only [go_sem, Nat.reduceAdd, ↓reduceIte]; rfl) mixed (fun C hP hM hC => ?_)
  have k1 := c_impl_all_impl_Series_1_ser m l hl
  have k2 := c_impl_all_impl_Series_1_ser m l2 hl2
  rw [h1] at k1
  rw [h2] at k2
  (repeat (first | ((with_reducible refine rgn_cons rfl (fun K hK => ?_)); simp only [go_sem, seval, ↓reduceIte, decide_true, decide_false]; (first | refine hK _ _ _ (by simp only [go_sem, Nat.reduceEqDiff, ↓reduceIte]; rfl) ?_ | refine ⟨_, c_slices_ContainsFunc_impl_Series_impl_Series_two m l l2 72 [.fptr (.fn 53 [])] (by decide) (by rfl) (by rfl) (fun c => rfl) k1 k2, hK _ _ _ (by simp only [go_sem, Nat.reduceEqDiff, ↓reduceIte]; rfl) ?_⟩); clear hK; clear K) | (with_reducible first | refine rgn_nil (by first | trivial | kernel_rfl) ?_ | refine AWP.seq ?_ | refine tX hC hP (by kernel_rfl) ?_ | refine aX hC hM hP (by kernel_rfl) ?_ | refine AWP.skip ?_ | refine AWP.label ?_ | refine AWP.exit ?_ | refine AWP.block ?_ | refine cTa ?_ | refine cFa ?_) | simp only [qS, Nat.reduceEqDiff, ↓reduceIte]))
  (refine AWP.ret ?_; refine retOk1 (by simp only [go_sem, seval, ↓reduceIte, decide_true, decide_false]; rfl) ?_)
  rfl
set_option maxHeartbeats 1000000 in
theorem c_impl_all_impl_Series_cur2 (m : Int) (ll : List (List Int)) (l l2 : List Int) (ha : ll.length ≤ 1099511627776) (hl : l.length ≤ 1099511627776) (hl2 : l2.length ≤ 1099511627776) (h0 : 0 < l.length) (h02 : 0 < l2.length) (h1 : cuB m ll.length m l = true) (h2 : cuB m ll.length m l2 = true) : AFn Try.prog 52 [.sl false 36 [.agg [.int .i64 m, .sl false 2 (intL l)], .agg [.int .i64 m, .sl false 2 (intL l2)]], .fn 1000054 [.agg [.int .i64 m, .sl false 27 (rowsF ll)]]] (.bool true) := by
  refine AFn.of' ttOk (by decide) Try.func52 Try.ntmps52 (by rw [Try.results52]) (by rfl) (by rfl) (by simp) (by decide) (by simp only [go_sem, Nat.reduceAdd, ↓reduceIte]; rfl) mixed (fun C hP hM hC => ?_)
  have k1 := c_impl_all_impl_Series_1_cur m m ll l ha hl h0
  have k2 := c_impl_all_impl_Series_1_cur m m ll l2 ha hl2 h02
  rw [h1] at k1
  rw [h2] at k2
  (repeat (first | ((with_reducible refine rgn_cons rfl (fun K hK => ?_)); simp only [go_sem, seval, ↓reduceIte, decide_true, decide_false, rowsF_pure]; (first | refine hK _ _ _ (by simp only [go_sem, Nat.reduceEqDiff, ↓reduceIte]; rfl) ?_ | refine ⟨_, c_slices_ContainsFunc_impl_Series_impl_Series_two m l l2 72 [.fptr (.fn 1000054 [.agg [.int .i64 m, .sl false 27 (rowsF ll)]])] (by decide) (by rfl) (by simp [T.pureL, T.pure, rowsF_pure]) (fun c => rfl) k1 k2, hK _ _ _ (by simp only [go_sem, Nat.reduceEqDiff, ↓reduceIte]; rfl) ?_⟩); clear hK; clear K) | (with_reducible first | refine rgn_nil (by first | trivial | kernel_rfl) ?_ | refine AWP.seq ?_ | refine tX hC hP (by kernel_rfl) ?_ | refine aX hC hM hP (by kernel_rfl) ?_ | refine AWP.skip ?_ | refine AWP.label ?_ | refine AWP.exit ?_ | refine AWP.block ?_ | refine cTa ?_ | refine cFa ?_) | simp only [qS, Nat.reduceEqDiff, ↓reduceIte]))
  (refine AWP.ret ?_; refine retOk1 (by simp only [go_sem, seval, ↓reduceIte, decide_true, decide_false]; rfl) ?_)
  rfl
set_option maxHeartbeats 1000000 in
theorem c_impl_curved_two (m : Int) (ll : List (List Int)) (l l2 : List Int) (hs : Sm ll) (hl : l.length ≤ 1099511627776) (hl2 : l2.length ≤ 1099511627776) (hL : lawB m ll = true) (s1 : isSer m l = true) (s2 : isSer m l2 = true) (c1 : cuB m ll.length m l = true) (c2 : cuB m ll.length m l2 = true) : AFn Try.prog 20 [.agg [.int .i64 m, .sl false 27 (rowsF ll)], .sl false 36 [.agg [.int .i64 m, .sl false 2 (intL l)], .agg [.int .i64 m, .sl false 2 (intL l2)]]] (.int .i64 0) := by
  refine AFn.of' ttOk (by decide) Try.func20 Try.ntmps20 (by rw [Try.results20]) (by rfl) (by rfl) (by simp) (by decide) (by simp only [go_sem, Nat.reduceAdd, ↓reduceIte]; rfl) mixed (fun C hP hM hC => ?_)
  have hA := c_impl_IsLaw m ll hs
  rw [hL] at hA
  have hS := c_impl_all_impl_Series_ser2 m l l2 hl hl2 s1 s2
  have hU := c_impl_all_impl_Series_cur2 m ll l l2 (by have := hs.1; omega) hl hl2 (by have := isSer_len s1; omega) (by have := isSer_len s2; omega) c1 c2
  (repeat (first | ((with_reducible refine rgn_cons rfl (fun K hK => ?_)); simp only [go_sem, seval, ↓reduceIte, decide_true, decide_false]; (first | refine hK _ _ _ (by simp only [go_sem, Nat.reduceEqDiff, ↓reduceIte]; rfl) ?_ | refine ⟨_, hA, hK _ _ _ (by simp only [go_sem, Nat.reduceEqDiff, ↓reduceIte]; rfl) ?_⟩ | refine ⟨_, hS, hK _ _ _ (by simp only [go_sem, Nat.reduceEqDiff, ↓reduceIte]; rfl) ?_⟩ | refine ⟨_, hU, hK _ _ _ (by simp only [go_sem, Nat.reduceEqDiff, ↓reduceIte]; rfl) ?_⟩); clear hK; clear K) | (with_reducible first | refine rgn_nil (by first | trivial | kernel_rfl) ?_ | refine AWP.seq ?_ | refine tX hC hP (by kernel_rfl) ?_ | refine aX hC hM hP (by kernel_rfl) ?_ | refine AWP.skip ?_ | refine AWP.label ?_ | refine AWP.exit ?_ | refine AWP.block ?_ | refine cTa ?_ | refine cFa ?_) | simp only [qS, Nat.reduceEqDiff, ↓reduceIte]))
  (refine AWP.ret ?_; refine retOk1 (by simp only [go_sem, seval, ↓reduceIte, decide_true, decide_false]; rfl) ?_)
  rfl
/-- A curve of the multiplicative law. -/
structure MCv (m : Int) (d : Nat) (l : List Int) : Prop where
  len : l.length = d + 1
  num : ∀ x ∈ l, 0 ≤ x ∧ x < m
  at0 : at' l 0 = 0
theorem MCv.ser {m : Int} {d : Nat} {l : List Int} (h : MCv m d l) (hm : 1 < m) (hm2 : m ≤ 10000) (hd : 1 ≤ d) (hd2 : d ≤ 10) : isSer m l = true := by
  have h1 := h.len
  have h2 := h.num
  simp only [isSer, Bool.and_eq_true, decide_eq_true_eq, List.all_eq_true, isNum]
  exact ⟨⟨⟨by omega, hm2⟩, by omega, by omega⟩, fun x hx => by have := h2 x hx; omega⟩
theorem MCv.cu {m : Int} {d : Nat} {l : List Int} (h : MCv m d l) {ll : List (List Int)} (hl : ll.length = d + 1) : cuB m ll.length m l = true := by
  rw [cuB, decide_eq_true ⟨rfl, by rw [hl, h.len]⟩, show l.getD 0 0 = 0 from h.at0]; rfl
set_option maxHeartbeats 1000000 in
theorem c_impl_SumUnder (m : Int) (d : Nat) (a b : List Int) (hm : 1 < m) (hm2 : m ≤ 10000) (hd : 2 ≤ d) (hd2 : d ≤ 10) (ha : MCv m d a) (hb : MCv m d b) : AFn Try.prog 9 [.agg [.int .i64 m, .sl false 27 (rowsF (tab2 (d + 1) (mulT m)))], .agg [.int .i64 m, .sl false 2 (intL a)], .agg [.int .i64 m, .sl false 2 (intL b)]] (.tup [.agg [.int .i64 m, .sl true 2 (intL (putL m (pc (tab2 (d + 1) (mulT m))) a b d))], .int .i64 0]) := by
  refine AFn.of' ttOk (by decide) Try.func9 Try.ntmps9 (by rw [Try.results9]) (by rfl) (by rfl) (by simp) (by decide) (by simp only [go_sem, Nat.reduceAdd, ↓reduceIte]; rfl) mixed (fun C hP hM hC => ?_)
  have hp := mul_pl hm (d + 1)
  have h1 := ha.len
  have h2 := hb.len
  have hLl : (tab2 (d + 1) (mulT m)).length = d + 1 := tab2_length _ _
  have hs : Sm (tab2 (d + 1) (mulT m)) := ⟨by omega, fun i => by
    by_cases hi : i < d + 1
    · rw [hp.row i hi]; omega
    · rw [List.getD_eq_getElem?_getD, List.getElem?_eq_none (by omega)]; simp⟩
  have hCu := c_impl_curved_two m (tab2 (d + 1) (mulT m)) a b hs (by omega) (by omega) (mul_law hm hm2 hd hd2) (ha.ser hm hm2 (by omega) hd2) (hb.ser hm hm2 (by omega) hd2) (ha.cu hLl) (hb.cu hLl)
  have hV := c_impl_Plane_curves m (tab2 (d + 1) (mulT m)) a b d hm hm2 hp ha.num ha.len hb.num hb.len (by omega)
  (repeat (first | ((with_reducible refine rgn_cons rfl (fun K hK => ?_)); simp only [go_sem, seval, ↓reduceIte, decide_true, decide_false, show ((0 : Int) != 0) = false from rfl]; (first | refine hK _ _ _ (by simp only [go_sem, Nat.reduceEqDiff, ↓reduceIte]; rfl) ?_ | refine ⟨_, hCu, hK _ _ _ (by simp only [go_sem, Nat.reduceEqDiff, ↓reduceIte]; rfl) ?_⟩ | refine ⟨_, hV, hK _ _ _ (by simp only [go_sem, Nat.reduceEqDiff, ↓reduceIte]; rfl) ?_⟩); clear hK; clear K) | (with_reducible first | refine rgn_nil (by first | trivial | kernel_rfl) ?_ | refine AWP.seq ?_ | refine tX hC hP (by kernel_rfl) ?_ | refine aX hC hM hP (by kernel_rfl) ?_ | refine AWP.skip ?_ | refine AWP.label ?_ | refine AWP.exit ?_ | refine AWP.block ?_ | refine cTa ?_ | refine cFa ?_) | simp only [qS, Nat.reduceEqDiff, ↓reduceIte]))
  (refine AWP.ret ?_; refine retOk2 (by simp only [go_sem, seval, ↓reduceIte, decide_true, decide_false]; rfl) (by simp only [go_sem, seval, ↓reduceIte, decide_true, decide_false]; rfl) (by simp) ?_)
  rfl
end Go.Proofs.Ytahnnangdepkbaa
