/-
  Planes of series, compositions, rows, cuts, other moduli, coefficients.
-/
import Derived.Test.YtapdekacpecgiaaGreatSyb
import Derived.Test.YtapdekacpecgiaaGreatLf
namespace Go.Proofs.YtapdekacpecgiaaGreat
open Go.RowKit
set_option linter.unusedSimpArgs false
set_option linter.unusedVariables false
set_option linter.unusedSectionVars false
set_option maxRecDepth 20000
-- Planes of series, compositions, rows, cuts, other moduli, coefficients.
def axX (l : List Int) (i u v : Nat) : Int := if v = 0 ∧ u < i then at' l u else 0
set_option maxHeartbeats 1000000 in
theorem c_impl_onAxis_su (m : Int) (l : List Int) (n : Nat) (hl : l.length = n) (hn : 1 ≤ n) (hn2 : n ≤ 900) : AFn Tryz.prog 82 [.agg [.int .i64 m, .sl false 2 (intL l)], .int .i64 0] (.agg [.int .i64 m, .sl true 27 (rowsO (tab2 n (axX l n)))]) := by
  refine AFn.of' ttOk (by decide) Tryz.func82 Tryz.ntmps82 (by rw [Tryz.results82]) (by rfl) (by rfl) (by simp) (by decide) (by simp only [go_sem, Nat.reduceAdd, ↓reduceIte]; rfl) mixed (fun C hP hM hC => ?_)
  have hZ0 := c_impl_emptyPlane m (n - 1) (by omega)
  rw [show n - 1 + 1 = n by omega, show tab2 n (fun _ _ => 0) = tab2 n (axX l 0) from tab2_congr fun u v _ => by simp [axX]] at hZ0
  have hD := c_impl_Series_degree m l (by omega)
  rw [hl, show (n : Int) - 1 = ((n - 1 : Nat) : Int) by omega] at hD
  (repeat (first | ((with_reducible refine rgn_cons rfl (fun K hK => ?_)); simp only [go_sem, seval, ↓reduceIte, decide_true, decide_false, hl]; (first | refine hK _ _ _ (by simp only [go_sem, Nat.reduceEqDiff, ↓reduceIte]; rfl) ?_ | refine ⟨_, hD, hK _ _ _ (by simp only [go_sem, Nat.reduceEqDiff, ↓reduceIte]; rfl) ?_⟩ | refine ⟨_, hZ0, hK _ _ _ (by simp only [go_sem, Nat.reduceEqDiff, ↓reduceIte]; rfl) ?_⟩); clear hK; clear K) | (with_reducible first | refine rgn_nil (by first | trivial | kernel_rfl) ?_ | refine AWP.seq ?_ | refine tX hC hP (by kernel_rfl) ?_ | refine aX hC hM hP (by kernel_rfl) ?_ | refine AWP.skip ?_ | refine AWP.label ?_ | refine AWP.exit ?_ | refine AWP.block ?_ | refine cTa ?_ | refine cFa ?_) | simp only [qS, Nat.reduceEqDiff, ↓reduceIte]))
  refine AWP.loop (fun i : Nat => [(16, ⟨0, .val (.int .i64 i)⟩), (15, ⟨0, .val (.int .i64 n)⟩), (14, ⟨0, .val (.sl false 2 (intL l))⟩), (5, ⟨2, .own (.box 26 (.agg [.int .i64 m, .sl true 27 (rowsO (tab2 n (axX l i)))]))⟩), (1, ⟨0, .val (.int .i64 0)⟩), (4, ⟨1, .own (.box 26 (.agg [.int .i64 0, .nil]))⟩)]) (fun i => i ≤ n) (fun i => n - i) 0 (Nat.zero_le _) (fun i => rfl) ?_ (fun i hi => ?_)
  · simp [Sub, lk]
  · by_cases hin : i < n
    · have hi1 : i < (tab2 n (axX l i)).length := by rw [tab2_length]; exact hin
      have hc : 0 < (tab (n - i) (axX l i i)).length := by rw [tab_length]; omega
      have hst : (tab2 n (axX l i)).set i ((tab (n - i) (axX l i i)).set 0 (at' l i)) = tab2 n (axX l (i + 1)) := tab2_set (fun a b _ => by
        unfold axX
        by_cases e : a = i ∧ b = 0
        · obtain ⟨rfl, rfl⟩ := e; simp
        · rw [if_neg e]
          by_cases h2 : b = 0 ∧ a < i
          · rw [if_pos h2, if_pos (by omega)]
          · rw [if_neg h2, if_neg (by omega)])
      (repeat (first | ((with_reducible refine rgn_cons rfl (fun K hK => ?_)); simp only [go_sem, seval, ↓reduceIte, decide_true, decide_false, show (i : Int) < (n : Int) by omega, decide_true, hl, intL_getD l i (by omega), show l.getD i 0 = at' l i from rfl, show ((0 : Int) == 0) = true from rfl, rowsO_at _ _ hi1, rowsO_sizeT _ _ (Nat.le_of_lt hi1), rowsO_length, tab2_length, tab2_row hin, tab_length, Nat.mul_one, Int.toNat_natCast, Int.natCast_nonneg, Int.le_refl, Int.toNat_zero, List.take_zero, Nat.zero_mul, show (0 : Int) < ((n - i : Nat) : Int) by omega, intL_get _ 0 hc, rowsO_modify _ _ _ _ hi1, hst, wid ((i : Int) + 1) (by omega) (by omega)]; (refine hK _ _ _ (by simp only [go_sem, Nat.reduceEqDiff, ↓reduceIte]; rfl) ?_); clear hK; clear K) | (with_reducible first | refine rgn_nil (by first | trivial | kernel_rfl) ?_ | refine AWP.seq ?_ | refine tX hC hP (by kernel_rfl) ?_ | refine aX hC hM hP (by kernel_rfl) ?_ | refine AWP.skip ?_ | refine AWP.label ?_ | refine AWP.exit ?_ | refine AWP.block ?_ | refine cTa ?_ | refine cFa ?_) | simp only [qS, Nat.reduceEqDiff, ↓reduceIte]))
      exact ⟨i + 1, hin, by omega, by simp [Sub, lk]⟩
    · have e : i = n := by omega
      subst e
      (repeat (first | ((with_reducible refine rgn_cons rfl (fun K hK => ?_)); simp only [go_sem, seval, ↓reduceIte, decide_true, decide_false, show ¬ (i : Int) < (i : Int) by omega, decide_false]; (refine hK _ _ _ (by simp only [go_sem, Nat.reduceEqDiff, ↓reduceIte]; rfl) ?_); clear hK; clear K) | (with_reducible first | refine rgn_nil (by first | trivial | kernel_rfl) ?_ | refine AWP.seq ?_ | refine tX hC hP (by kernel_rfl) ?_ | refine aX hC hM hP (by kernel_rfl) ?_ | refine AWP.skip ?_ | refine AWP.label ?_ | refine AWP.exit ?_ | refine AWP.block ?_ | refine cTa ?_ | refine cFa ?_) | simp only [qS, Nat.reduceEqDiff, ↓reduceIte]))
      (refine AWP.ret ?_; refine retOk1 (by simp only [go_sem, seval, ↓reduceIte, decide_true, decide_false]; rfl) ?_)
      rfl
set_option maxHeartbeats 1000000 in
theorem c_spec_l03Degree_su (m : Int) (ll : List (List Int)) (hl : ll.length ≤ 1099511627776) : AFn Tryz.prog 102 [.agg [.int .i64 m, .sl false 27 (rowsF ll)]] (.int .i64 ((ll.length : Int) - 1)) := by
  refine AFn.of' ttOk (by decide) Tryz.func102 Tryz.ntmps102 (by rw [Tryz.results102]) (by rfl) (by rfl) (by simp) (by decide) (by simp only [go_sem, Nat.reduceAdd, ↓reduceIte]; rfl) mixed (fun C hP hM hC => ?_)
  (repeat (first | ((with_reducible refine rgn_cons rfl (fun K hK => ?_)); simp only [go_sem, seval, ↓reduceIte, decide_true, decide_false, rowsF_length, wid ((ll.length : Int) - 1) (by omega) (by omega)]; (refine hK _ _ _ (by simp only [go_sem, Nat.reduceEqDiff, ↓reduceIte]; rfl) ?_); clear hK; clear K) | (with_reducible first | refine rgn_nil (by first | trivial | kernel_rfl) ?_ | refine AWP.seq ?_ | refine tX hC hP (by kernel_rfl) ?_ | refine aX hC hM hP (by kernel_rfl) ?_ | refine AWP.skip ?_ | refine AWP.label ?_ | refine AWP.exit ?_ | refine AWP.block ?_ | refine cTa ?_ | refine cFa ?_) | simp only [qS, Nat.reduceEqDiff, ↓reduceIte]))
  (refine AWP.ret ?_; refine retOk1 (by simp only [go_sem, seval, ↓reduceIte, decide_true, decide_false]; rfl) ?_)
  rfl
def cuR (k : Nat) (ll : List (List Int)) (i : Nat) : List (List Int) := tab2 (k + 1) (fun a b => if a < i then pc ll a b else 0)
theorem cuR_set {m : Int} {n k i : Nat} {ll : List (List Int)} (hl : Pl m n ll) (hk : k + 1 ≤ n) (hi : i ≤ k) : (cuR k ll i).set i (tab (k + 1 - i) (pc ll i)) = cuR k ll (i + 1) := by
  apply List.ext_getElem?
  intro a
  by_cases e : a = i
  · subst e
    rw [List.getElem?_set_self (by rw [cuR, tab2_length]; omega)]
    have h1 := tab2_row (n := k + 1) (i := a) (f := fun a_1 b => if a_1 < a + 1 then pc ll a_1 b else 0) (by omega)
    rw [List.getD_eq_getElem?_getD] at h1
    rw [cuR, List.getElem?_eq_getElem (by rw [tab2_length]; omega)] 
    rw [List.getElem?_eq_getElem (by rw [tab2_length]; omega)] at h1
    simp only [Option.getD_some] at h1
    rw [h1]
    congr 1
    exact tab_congr fun j hj => by rw [if_pos (by omega)]
  · rw [List.getElem?_set_ne (fun h => e h.symm)]
    unfold cuR tab2 tabR
    simp only [List.getElem?_map]
    by_cases ha : a < k + 1
    · rw [List.getElem?_range ha]
      simp only [Option.map_some]
      congr 1
      exact tab_congr fun j hj => by
        by_cases h2 : a < i
        · rw [if_pos h2, if_pos (by omega)]
        · rw [if_neg h2, if_neg (by omega)]
    · rw [List.getElem?_eq_none (by simp; omega)]; rfl
theorem rowsO_put (L : List (List Int)) (i : Nat) (x : List Int) (f : T → T) (hf : f (.sl true 2 (intL (L.getD i []))) = (.sl true 2 (intL x))) (h : i < L.length) : (rowsO L).modify i f = rowsO (L.set i x) := by
  apply List.ext_getElem?
  intro a
  rw [List.getElem?_modify]
  by_cases e : i = a
  · subst e
    rw [rowsO_at _ _ h, rowsO_at _ _ (by rw [List.length_set]; exact h)]
    have e2 : (L.set i x).getD i [] = x := by
      rw [List.getD_eq_getElem?_getD, List.getElem?_set_self h]; rfl
    simp only [if_true, Option.map_eq_map, Option.map_some]
    rw [e2, hf]
  · simp only [rowsO, if_neg e, List.getElem?_map, List.getElem?_set_ne e, Option.map_eq_map]
    cases L[a]? <;> rfl
set_option maxHeartbeats 1000000 in
theorem c_impl_Plane_cut_su (m : Int) (ll : List (List Int)) (n k : Nat) (hl : Pl m n ll) (hk : k + 1 ≤ n) (hn : n ≤ 1000) : AFn Tryz.prog 104 [.agg [.int .i64 m, .sl false 27 (rowsF ll)], .int .i64 k] (.agg [.int .i64 m, .sl true 27 (rowsO (tab2 (k + 1) (pc ll)))]) := by
  refine AFn.of' ttOk (by decide) Tryz.func104 Tryz.ntmps104 (by rw [Tryz.results104]) (by rfl) (by rfl) (by simp) (by decide) (by simp only [go_sem, Nat.reduceAdd, ↓reduceIte]; rfl) mixed (fun C hP hM hC => ?_)
  have h0 : tab2 (k + 1) (fun _ _ => 0) = cuR k ll 0 := tab2_congr fun i j _ => by rw [if_neg (by omega)]
  have hE := c_impl_emptyPlane m k (by omega)
  rw [h0] at hE
  have hlen : ∀ i, (cuR k ll i).length = k + 1 := fun i => tab2_length _ _
  (repeat (first | ((with_reducible refine rgn_cons rfl (fun K hK => ?_)); simp only [go_sem, seval, ↓reduceIte, decide_true, decide_false, rowsO_length, hlen]; (first | refine hK _ _ _ (by simp only [go_sem, Nat.reduceEqDiff, ↓reduceIte]; rfl) ?_ | refine ⟨_, hE, hK _ _ _ (by simp only [go_sem, Nat.reduceEqDiff, ↓reduceIte]; rfl) ?_⟩); clear hK; clear K) | (with_reducible first | refine rgn_nil (by first | trivial | kernel_rfl) ?_ | refine AWP.seq ?_ | refine tX hC hP (by kernel_rfl) ?_ | refine aX hC hM hP (by kernel_rfl) ?_ | refine AWP.skip ?_ | refine AWP.label ?_ | refine AWP.exit ?_ | refine AWP.block ?_ | refine cTa ?_ | refine cFa ?_) | simp only [qS, Nat.reduceEqDiff, ↓reduceIte]))
  refine AWP.loop (fun i : Nat => [(15, ⟨0, .val (.int .i64 i)⟩), (14, ⟨0, .val (.int .i64 (k + 1 : Nat))⟩), (13, ⟨0, .val (.ref 5 2 [0, 1])⟩), (5, ⟨2, .own (.box 26 (.agg [.int .i64 m, .sl true 27 (rowsO (cuR k ll i))]))⟩), (2, ⟨1, .own (.box 26 (.agg [.int .i64 m, .sl false 27 (rowsF ll)]))⟩), (4, ⟨1, .own (.box 26 (.agg [.int .i64 0, .nil]))⟩)]) (fun i => i ≤ k + 1) (fun i => k + 1 - i) 0 (Nat.zero_le _) (fun i => rfl) ?_ (fun i hi => ?_)
  · simp [Sub, lk]
  · by_cases hlt : i < k + 1
    · have hr := hl.row i (by omega)
      have hx1 : (cuR k ll i).getD i [] = tab (k + 1 - i) (fun _ => 0) := by
        rw [cuR, tab2_row hlt]; exact tab_congr fun j _ => by rw [if_neg (by omega)]
      have ht := pt_row hl (show i + (k + 1 - i) ≤ n by omega)
      have hdr : List.drop (n - i) (intL (tab (k + 1 - i) (fun _ => 0))) = [] := List.drop_of_length_le (by rw [intL_length, tab_length]; omega)
      have hput : (rowsO (cuR k ll i)).modify i (fun _ => (.sl true 2 (intL (tab (k + 1 - i) (pc ll i))))) = rowsO (cuR k ll (i + 1)) := by
        rw [rowsO_put (cuR k ll i) i (tab (k + 1 - i) (pc ll i)) _ rfl (by rw [hlen]; exact hlt), cuR_set hl hk (by omega)]
      (repeat (first | ((with_reducible refine rgn_cons rfl (fun K hK => ?_)); simp only [go_sem, seval, ↓reduceIte, decide_true, decide_false, show (i : Int) < ((k + 1 : Nat) : Int) by omega, decide_true, rowsF_length, hl.len, show (i : Int) < (n : Int) by omega, rowsF_getD ll i (by rw [hl.len]; omega), Int.toNat_natCast, Int.natCast_nonneg, hlen, rowsO_at (cuR k ll i) i (by rw [hlen]; exact hlt), rowsO_sizeT (cuR k ll i) i (by rw [hlen]; omega), Nat.mul_one, hx1, intL_sc, hr, show 0 < n - i by omega, tab_length, intL_takeR, ht, hdr, List.append_nil, hput, wid ((i : Int) + 1) (by omega) (by omega)]; (refine hK _ _ _ (by simp only [go_sem, Nat.reduceEqDiff, ↓reduceIte]; rfl) ?_); clear hK; clear K) | (with_reducible first | refine rgn_nil (by first | trivial | kernel_rfl) ?_ | refine AWP.seq ?_ | refine tX hC hP (by kernel_rfl) ?_ | refine aX hC hM hP (by kernel_rfl) ?_ | refine AWP.skip ?_ | refine AWP.label ?_ | refine AWP.exit ?_ | refine AWP.block ?_ | refine cTa ?_ | refine cFa ?_) | simp only [qS, Nat.reduceEqDiff, ↓reduceIte]))
      exact ⟨i + 1, hlt, by omega, by simp [Sub, lk]⟩
    · (repeat (first | ((with_reducible refine rgn_cons rfl (fun K hK => ?_)); simp only [go_sem, seval, ↓reduceIte, decide_true, decide_false, show ¬ (i : Int) < ((k + 1 : Nat) : Int) by omega, decide_false]; (refine hK _ _ _ (by simp only [go_sem, Nat.reduceEqDiff, ↓reduceIte]; rfl) ?_); clear hK; clear K) | (with_reducible first | refine rgn_nil (by first | trivial | kernel_rfl) ?_ | refine AWP.seq ?_ | refine tX hC hP (by kernel_rfl) ?_ | refine aX hC hM hP (by kernel_rfl) ?_ | refine AWP.skip ?_ | refine AWP.label ?_ | refine AWP.exit ?_ | refine AWP.block ?_ | refine cTa ?_ | refine cFa ?_) | simp only [qS, Nat.reduceEqDiff, ↓reduceIte]))
      (refine AWP.ret ?_; refine retOk1 (by simp only [go_sem, seval, ↓reduceIte, decide_true, decide_false]; rfl) ?_)
      rw [show i = k + 1 by omega, show cuR k ll (k + 1) = tab2 (k + 1) (pc ll) from tab2_congr fun a b hab => by rw [if_pos (by omega)]]
set_option maxHeartbeats 1000000 in
theorem c_impl_isSide (k : Int) : AFn Tryz.prog 81 [.int .i64 k] (.bool (decide (0 ≤ k) && decide (k ≤ 1))) := by
  refine AFn.of' ttOk (by decide) Tryz.func81 Tryz.ntmps81 (by rw [Tryz.results81]) (by rfl) (by rfl) (by simp) (by decide) (by simp only [go_sem, Nat.reduceAdd, ↓reduceIte]; rfl) mixed (fun C hP hM hC => ?_)
  (repeat (first | ((with_reducible refine rgn_cons rfl (fun K hK => ?_)); simp only [go_sem, seval, ↓reduceIte, decide_true, decide_false]; (first | refine hK _ _ _ (by simp only [go_sem, Nat.reduceEqDiff, ↓reduceIte]; rfl) ?_ | refine ⟨_, c_impl_in k 0 1, hK _ _ _ (by simp only [go_sem, Nat.reduceEqDiff, ↓reduceIte]; rfl) ?_⟩); clear hK; clear K) | (with_reducible first | refine rgn_nil (by first | trivial | kernel_rfl) ?_ | refine AWP.seq ?_ | refine tX hC hP (by kernel_rfl) ?_ | refine aX hC hM hP (by kernel_rfl) ?_ | refine AWP.skip ?_ | refine AWP.label ?_ | refine AWP.exit ?_ | refine AWP.block ?_ | refine cTa ?_ | refine cFa ?_) | simp only [qS, Nat.reduceEqDiff, ↓reduceIte]))
  (refine AWP.ret ?_; refine retOk1 (by simp only [go_sem, seval, ↓reduceIte, decide_true, decide_false]; rfl) ?_)
  rfl
set_option maxHeartbeats 1000000 in
theorem c_impl_PlaneOfSeries_ok (m : Int) (la : List Int) (hs : isSer m la = true) : AFn Tryz.prog 15 [.agg [.int .i64 m, .sl false 2 (intL la)], .int .i64 0] (.tup [.agg [.int .i64 m, .sl true 27 (rowsO (tab2 la.length (axX la la.length)))], .int .i64 0]) := by
  refine AFn.of' ttOk (by decide) Tryz.func15 Tryz.ntmps15 (by rw [Tryz.results15]) (by rfl) (by rfl) (by simp) (by decide) (by simp only [go_sem, Nat.reduceAdd, ↓reduceIte]; rfl) mixed (fun C hP hM hC => ?_)
  have f := isSer_len hs
  have hA := c_impl_IsSeries m la (by omega)
  rw [hs] at hA
  have hS1 := c_impl_isSide 0
  rw [show (decide ((0 : Int) ≤ 0) && decide ((0 : Int) ≤ 1)) = true from rfl] at hS1
  (repeat (first | ((with_reducible refine rgn_cons rfl (fun K hK => ?_)); simp only [go_sem, seval, ↓reduceIte, decide_true, decide_false]; (first | refine hK _ _ _ (by simp only [go_sem, Nat.reduceEqDiff, ↓reduceIte]; rfl) ?_ | refine ⟨_, hA, hK _ _ _ (by simp only [go_sem, Nat.reduceEqDiff, ↓reduceIte]; rfl) ?_⟩ | refine ⟨_, hS1, hK _ _ _ (by simp only [go_sem, Nat.reduceEqDiff, ↓reduceIte]; rfl) ?_⟩ | refine ⟨_, c_impl_onAxis_su m la la.length rfl (by omega) (by omega), hK _ _ _ (by simp only [go_sem, Nat.reduceEqDiff, ↓reduceIte]; rfl) ?_⟩); clear hK; clear K) | (with_reducible first | refine rgn_nil (by first | trivial | kernel_rfl) ?_ | refine AWP.seq ?_ | refine tX hC hP (by kernel_rfl) ?_ | refine aX hC hM hP (by kernel_rfl) ?_ | refine AWP.skip ?_ | refine AWP.label ?_ | refine AWP.exit ?_ | refine AWP.block ?_ | refine cTa ?_ | refine cFa ?_) | simp only [qS, Nat.reduceEqDiff, ↓reduceIte]))
  (refine AWP.ret ?_; refine retOk2 (by simp only [go_sem, seval, ↓reduceIte, decide_true, decide_false]; rfl) (by simp only [go_sem, seval, ↓reduceIte, decide_true, decide_false]; rfl) (by simp) ?_)
  rfl
set_option maxHeartbeats 1000000 in
theorem c_impl_bothSeries_su (m : Int) (x y : List Int) (hx : isSer m x = true) (hy : isSer m y = true) (hyl : y.length = x.length) : AFn Tryz.prog 94 [.agg [.int .i64 m, .sl false 2 (intL x)], .agg [.int .i64 m, .sl false 2 (intL y)]] (.int .i64 0) := by
  refine AFn.of' ttOk (by decide) Tryz.func94 Tryz.ntmps94 (by rw [Tryz.results94]) (by rfl) (by rfl) (by simp) (by decide) (by simp only [go_sem, Nat.reduceAdd, ↓reduceIte]; rfl) mixed (fun C hP hM hC => ?_)
  have f1 := isSer_len hx
  have hA := c_impl_IsSeries m x (by omega)
  have hB := c_impl_IsSeries m y (by omega)
  have hC2 := c_impl_Series_alike m m x y (by omega) (by omega)
  rw [hx] at hA
  rw [hy] at hB
  rw [show alikeB m x m y = true by simp [alikeB, hyl]] at hC2
  (repeat (first | ((with_reducible refine rgn_cons rfl (fun K hK => ?_)); simp only [go_sem, seval, ↓reduceIte, decide_true, decide_false]; (first | refine hK _ _ _ (by simp only [go_sem, Nat.reduceEqDiff, ↓reduceIte]; rfl) ?_ | refine ⟨_, hA, hK _ _ _ (by simp only [go_sem, Nat.reduceEqDiff, ↓reduceIte]; rfl) ?_⟩ | refine ⟨_, hB, hK _ _ _ (by simp only [go_sem, Nat.reduceEqDiff, ↓reduceIte]; rfl) ?_⟩ | refine ⟨_, hC2, hK _ _ _ (by simp only [go_sem, Nat.reduceEqDiff, ↓reduceIte]; rfl) ?_⟩); clear hK; clear K) | (with_reducible first | refine rgn_nil (by first | trivial | kernel_rfl) ?_ | refine AWP.seq ?_ | refine tX hC hP (by kernel_rfl) ?_ | refine aX hC hM hP (by kernel_rfl) ?_ | refine AWP.skip ?_ | refine AWP.label ?_ | refine AWP.exit ?_ | refine AWP.block ?_ | refine cTa ?_ | refine cFa ?_) | simp only [qS, Nat.reduceEqDiff, ↓reduceIte]))
  (refine AWP.ret ?_; refine retOk1 (by simp only [go_sem, seval, ↓reduceIte, decide_true, decide_false]; rfl) ?_)
  rfl
set_option maxHeartbeats 1000000 in
theorem c_impl_ComposeSeries_ok (m : Int) (x y : List Int) (hx : isSer m x = true) (hy : isSer m y = true) (hyl : y.length = x.length) (hy0 : at' y 0 = 0) : AFn Tryz.prog 19 [.agg [.int .i64 m, .sl false 2 (intL x)], .agg [.int .i64 m, .sl false 2 (intL y)]] (.tup [.agg [.int .i64 m, .sl true 2 (intL (cmpL m x y (x.length - 1) (x.length - 1 + 1)))], .int .i64 0]) := by
  refine AFn.of' ttOk (by decide) Tryz.func19 Tryz.ntmps19 (by rw [Tryz.results19]) (by rfl) (by rfl) (by simp) (by decide) (by simp only [go_sem, Nat.reduceAdd, ↓reduceIte]; rfl) mixed (fun C hP hM hC => ?_)
  have f1 := isSer_len hx
  have hC1 := c_impl_IsCurve m y (by omega) (by omega)
  rw [hy, show (y.getD 0 0 == 0) = true from beq_iff_eq.2 hy0] at hC1
  rw [show (true && true) = true from rfl] at hC1
  have hV := c_impl_Series_compose m x y (x.length - 1) (by omega) (by omega) (serNum hx) (serNum hy) (by omega) (by omega) (by omega)
  (repeat (first | ((with_reducible refine rgn_cons rfl (fun K hK => ?_)); simp only [go_sem, seval, ↓reduceIte, decide_true, decide_false]; (first | refine hK _ _ _ (by simp only [go_sem, Nat.reduceEqDiff, ↓reduceIte]; rfl) ?_ | refine ⟨_, c_impl_bothSeries_su m x y hx hy hyl, hK _ _ _ (by simp only [go_sem, Nat.reduceEqDiff, ↓reduceIte]; rfl) ?_⟩ | refine ⟨_, hC1, hK _ _ _ (by simp only [go_sem, Nat.reduceEqDiff, ↓reduceIte]; rfl) ?_⟩ | refine ⟨_, hV, hK _ _ _ (by simp only [go_sem, Nat.reduceEqDiff, ↓reduceIte]; rfl) ?_⟩); clear hK; clear K) | (with_reducible first | refine rgn_nil (by first | trivial | kernel_rfl) ?_ | refine AWP.seq ?_ | refine tX hC hP (by kernel_rfl) ?_ | refine aX hC hM hP (by kernel_rfl) ?_ | refine AWP.skip ?_ | refine AWP.label ?_ | refine AWP.exit ?_ | refine AWP.block ?_ | refine cTa ?_ | refine cFa ?_) | simp only [qS, Nat.reduceEqDiff, ↓reduceIte]))
  (refine AWP.ret ?_; refine retOk2 (by simp only [go_sem, seval, ↓reduceIte, decide_true, decide_false]; rfl) (by simp only [go_sem, seval, ↓reduceIte, decide_true, decide_false]; rfl) (by simp) ?_)
  rfl
-- Rows.
def rwC (m : Int) (t : List (List Int)) (i : Int) : Int := if isPl m t = true then (if (decide (0 ≤ i) && decide (i ≤ (t.length : Int) - 1 - 1)) = true then 0 else 2) else 1
set_option maxHeartbeats 1000000 in
theorem c_impl_RowOfPlane_ok (m : Int) (t : List (List Int)) (i : Nat) (hsh : Shp t) (h : rwC m t i = 0) : AFn Tryz.prog 21 [.agg [.int .i64 m, .sl false 27 (rowsF t)], .int .i64 i] (.tup [.agg [.int .i64 m, .sl true 2 (intL (t.getD i []))], .int .i64 0]) := by
  refine AFn.of' ttOk (by decide) Tryz.func21 Tryz.ntmps21 (by rw [Tryz.results21]) (by rfl) (by rfl) (by simp) (by decide) (by simp only [go_sem, Nat.reduceAdd, ↓reduceIte]; rfl) mixed (fun C hP hM hC => ?_)
  have ht := hsh.1
  have hP1 := c_impl_IsPlane m t hsh.sm
  have hD1 := c_impl_Plane_degree m t (by omega)
  have hI1 := c_impl_in (i : Int) 0 ((t.length : Int) - 1 - 1)
  have g1 : isPl m t = true := by
    apply Classical.byContradiction
    intro g; rw [rwC, if_neg g] at h; cases h
  have g2 : (decide ((0 : Int) ≤ (i : Int)) && decide ((i : Int) ≤ (t.length : Int) - 1 - 1)) = true := by
    apply Classical.byContradiction
    intro g; rw [rwC, if_pos g1, if_neg g] at h; cases h
  have g3 : i < t.length := by
    have : (0 : Int) ≤ (i : Int) ∧ (i : Int) ≤ (t.length : Int) - 1 - 1 := by simpa using g2
    omega
  rw [g1] at hP1
  rw [g2] at hI1
  (repeat (first | ((with_reducible refine rgn_cons rfl (fun K hK => ?_)); simp only [go_sem, seval, ↓reduceIte, decide_true, decide_false, wid ((t.length : Int) - 1 - 1) (by omega) (by omega), wid ((t.length : Int) - 1) (by omega) (by omega), rowsF_length, show (i : Int) < (t.length : Int) by omega, Int.natCast_nonneg, Int.toNat_natCast, rowsF_getD t i g3]; (first | refine hK _ _ _ (by simp only [go_sem, Nat.reduceEqDiff, ↓reduceIte]; rfl) ?_ | refine ⟨_, hP1, hK _ _ _ (by simp only [go_sem, Nat.reduceEqDiff, ↓reduceIte]; rfl) ?_⟩ | refine ⟨_, hD1, hK _ _ _ (by simp only [go_sem, Nat.reduceEqDiff, ↓reduceIte]; rfl) ?_⟩ | refine ⟨_, hI1, hK _ _ _ (by simp only [go_sem, Nat.reduceEqDiff, ↓reduceIte]; rfl) ?_⟩ | refine ⟨_, c_impl_copyOf_int64_pt (t.getD i []) (by have := (hsh.row g3).1; omega), hK _ _ _ (by simp only [go_sem, Nat.reduceEqDiff, ↓reduceIte]; rfl) ?_⟩); clear hK; clear K) | (with_reducible first | refine rgn_nil (by first | trivial | kernel_rfl) ?_ | refine AWP.seq ?_ | refine tX hC hP (by kernel_rfl) ?_ | refine aX hC hM hP (by kernel_rfl) ?_ | refine AWP.skip ?_ | refine AWP.label ?_ | refine AWP.exit ?_ | refine AWP.block ?_ | refine cTa ?_ | refine cFa ?_) | simp only [qS, Nat.reduceEqDiff, ↓reduceIte]))
  (refine AWP.ret ?_; refine retOk2 (by simp only [go_sem, seval, ↓reduceIte, decide_true, decide_false]; rfl) (by simp only [go_sem, seval, ↓reduceIte, decide_true, decide_false]; rfl) (by simp) ?_)
  rfl
set_option maxHeartbeats 1000000 in
theorem c_impl_RowOfPlane_no (m : Int) (t : List (List Int)) (i : Int) (hsh : Shp t) (h : rwC m t i ≠ 0) : AFn Tryz.prog 21 [.agg [.int .i64 m, .sl false 27 (rowsF t)], .int .i64 i] (.tup [.agg [.int .i64 0, .nil], .int .i64 (rwC m t i)]) := by
  refine AFn.of' ttOk (by decide) Tryz.func21 Tryz.ntmps21 (by rw [Tryz.results21]) (by rfl) (by rfl) (by simp) (by decide) (by simp only [go_sem, Nat.reduceAdd, ↓reduceIte]; rfl) mixed (fun C hP hM hC => ?_)
  have ht := hsh.1
  have hP1 := c_impl_IsPlane m t hsh.sm
  have hD1 := c_impl_Plane_degree m t (by omega)
  have hI1 := c_impl_in i 0 ((t.length : Int) - 1 - 1)
  cases g1 : isPl m t with
  | false =>
    rw [g1] at hP1
    (repeat (first | ((with_reducible refine rgn_cons rfl (fun K hK => ?_)); simp only [go_sem, seval, ↓reduceIte, decide_true, decide_false]; (first | refine hK _ _ _ (by simp only [go_sem, Nat.reduceEqDiff, ↓reduceIte]; rfl) ?_ | refine ⟨_, hP1, hK _ _ _ (by simp only [go_sem, Nat.reduceEqDiff, ↓reduceIte]; rfl) ?_⟩); clear hK; clear K) | (with_reducible first | refine rgn_nil (by first | trivial | kernel_rfl) ?_ | refine AWP.seq ?_ | refine tX hC hP (by kernel_rfl) ?_ | refine aX hC hM hP (by kernel_rfl) ?_ | refine AWP.skip ?_ | refine AWP.label ?_ | refine AWP.exit ?_ | refine AWP.block ?_ | refine cTa ?_ | refine cFa ?_) | simp only [qS, Nat.reduceEqDiff, ↓reduceIte]))
    (refine AWP.ret ?_; refine retOk2 (by simp only [go_sem, seval, ↓reduceIte, decide_true, decide_false]; rfl) (by simp only [go_sem, seval, ↓reduceIte, decide_true, decide_false]; rfl) (by simp) ?_)
    rw [rwC, if_neg (by rw [g1]; exact fun h => by cases h)]
  | true =>
    rw [g1] at hP1
    cases g2 : (decide (0 ≤ i) && decide (i ≤ (t.length : Int) - 1 - 1)) with
    | false =>
      rw [g2] at hI1
      (repeat (first | ((with_reducible refine rgn_cons rfl (fun K hK => ?_)); simp only [go_sem, seval, ↓reduceIte, decide_true, decide_false, wid ((t.length : Int) - 1 - 1) (by omega) (by omega), wid ((t.length : Int) - 1) (by omega) (by omega)]; (first | refine hK _ _ _ (by simp only [go_sem, Nat.reduceEqDiff, ↓reduceIte]; rfl) ?_ | refine ⟨_, hP1, hK _ _ _ (by simp only [go_sem, Nat.reduceEqDiff, ↓reduceIte]; rfl) ?_⟩ | refine ⟨_, hD1, hK _ _ _ (by simp only [go_sem, Nat.reduceEqDiff, ↓reduceIte]; rfl) ?_⟩ | refine ⟨_, hI1, hK _ _ _ (by simp only [go_sem, Nat.reduceEqDiff, ↓reduceIte]; rfl) ?_⟩); clear hK; clear K) | (with_reducible first | refine rgn_nil (by first | trivial | kernel_rfl) ?_ | refine AWP.seq ?_ | refine tX hC hP (by kernel_rfl) ?_ | refine aX hC hM hP (by kernel_rfl) ?_ | refine AWP.skip ?_ | refine AWP.label ?_ | refine AWP.exit ?_ | refine AWP.block ?_ | refine cTa ?_ | refine cFa ?_) | simp only [qS, Nat.reduceEqDiff, ↓reduceIte]))
      (refine AWP.ret ?_; refine retOk2 (by simp only [go_sem, seval, ↓reduceIte, decide_true, decide_false]; rfl) (by simp only [go_sem, seval, ↓reduceIte, decide_true, decide_false]; rfl) (by simp) ?_)
      rw [rwC, if_pos g1, if_neg (by rw [g2]; exact fun h => by cases h)]
    | true => exact absurd (by rw [rwC, if_pos g1, if_pos g2]) h
set_option maxHeartbeats 1000000 in
theorem c_spec_RowOfPlane_ok (m : Int) (t : List (List Int)) (i : Nat) (hsh : Shp t) (h : rwC m t i = 0) : AFn Tryz.prog 22 [.agg [.int .i64 m, .sl false 27 (rowsF t)], .int .i64 i] (.tup [.agg [.int .i64 m, .sl true 2 (intL (t.getD i []))], .int .i64 0]) := by
  refine AFn.of' ttOk (by decide) Tryz.func22 Tryz.ntmps22 (by rw [Tryz.results22]) (by rfl) (by rfl) (by simp) (by decide) (by simp only [go_sem, Nat.reduceAdd, ↓reduceIte]; rfl) mixed (fun C hP hM hC => ?_)
  have ht := hsh.1
  have hP1 := c_spec_l03Is m t hsh.sm
  have hD1 := c_spec_l03Degree_su m t (by omega)
  have hI1 := c_spec_l01In (i : Int) 0 ((t.length : Int) - 1 - 1)
  have g1 : isPl m t = true := by
    apply Classical.byContradiction
    intro g; rw [rwC, if_neg g] at h; cases h
  have g2 : (decide ((0 : Int) ≤ (i : Int)) && decide ((i : Int) ≤ (t.length : Int) - 1 - 1)) = true := by
    apply Classical.byContradiction
    intro g; rw [rwC, if_pos g1, if_neg g] at h; cases h
  have g3 : i < t.length := by
    have : (0 : Int) ≤ (i : Int) ∧ (i : Int) ≤ (t.length : Int) - 1 - 1 := by simpa using g2
    omega
  rw [g1] at hP1
  rw [g2] at hI1
  (repeat (first | ((with_reducible refine rgn_cons rfl (fun K hK => ?_)); simp only [go_sem, seval, ↓reduceIte, decide_true, decide_false, wid ((t.length : Int) - 1 - 1) (by omega) (by omega), wid ((t.length : Int) - 1) (by omega) (by omega), rowsF_length, show (i : Int) < (t.length : Int) by omega, Int.natCast_nonneg, Int.toNat_natCast, rowsF_getD t i g3]; (first | refine hK _ _ _ (by simp only [go_sem, Nat.reduceEqDiff, ↓reduceIte]; rfl) ?_ | refine ⟨_, hP1, hK _ _ _ (by simp only [go_sem, Nat.reduceEqDiff, ↓reduceIte]; rfl) ?_⟩ | refine ⟨_, hD1, hK _ _ _ (by simp only [go_sem, Nat.reduceEqDiff, ↓reduceIte]; rfl) ?_⟩ | refine ⟨_, hI1, hK _ _ _ (by simp only [go_sem, Nat.reduceEqDiff, ↓reduceIte]; rfl) ?_⟩ | refine ⟨_, c_spec_l01Own_pt (t.getD i []) (by have := (hsh.row g3).1; omega), hK _ _ _ (by simp only [go_sem, Nat.reduceEqDiff, ↓reduceIte]; rfl) ?_⟩ | refine ⟨_, c_spec_l02Make _ _, hK _ _ _ (by simp only [go_sem, Nat.reduceEqDiff, ↓reduceIte]; rfl) ?_⟩); clear hK; clear K) | (with_reducible first | refine rgn_nil (by first | trivial | kernel_rfl) ?_ | refine AWP.seq ?_ | refine tX hC hP (by kernel_rfl) ?_ | refine aX hC hM hP (by kernel_rfl) ?_ | refine AWP.skip ?_ | refine AWP.label ?_ | refine AWP.exit ?_ | refine AWP.block ?_ | refine cTa ?_ | refine cFa ?_) | simp only [qS, Nat.reduceEqDiff, ↓reduceIte]))
  (refine AWP.ret ?_; refine retOk2 (by simp only [go_sem, seval, ↓reduceIte, decide_true, decide_false]; rfl) (by simp only [go_sem, seval, ↓reduceIte, decide_true, decide_false]; rfl) (by simp) ?_)
  rfl
set_option maxHeartbeats 1000000 in
theorem c_spec_RowOfPlane_no (m : Int) (t : List (List Int)) (i : Int) (hsh : Shp t) (h : rwC m t i ≠ 0) : AFn Tryz.prog 22 [.agg [.int .i64 m, .sl false 27 (rowsF t)], .int .i64 i] (.tup [.agg [.int .i64 0, .nil], .int .i64 (rwC m t i)]) := by
  refine AFn.of' ttOk (by decide) Tryz.func22 Tryz.ntmps22 (by rw [Tryz.results22]) (by rfl) (by rfl) (by simp) (by decide) (by simp only [go_sem, Nat.reduceAdd, ↓reduceIte]; rfl) mixed (fun C hP hM hC => ?_)
  have ht := hsh.1
  have hP1 := c_spec_l03Is m t hsh.sm
  have hD1 := c_spec_l03Degree_su m t (by omega)
  have hI1 := c_spec_l01In i 0 ((t.length : Int) - 1 - 1)
  cases g1 : isPl m t with
  | false =>
    rw [g1] at hP1
    (repeat (first | ((with_reducible refine rgn_cons rfl (fun K hK => ?_)); simp only [go_sem, seval, ↓reduceIte, decide_true, decide_false]; (first | refine hK _ _ _ (by simp only [go_sem, Nat.reduceEqDiff, ↓reduceIte]; rfl) ?_ | refine ⟨_, hP1, hK _ _ _ (by simp only [go_sem, Nat.reduceEqDiff, ↓reduceIte]; rfl) ?_⟩); clear hK; clear K) | (with_reducible first | refine rgn_nil (by first | trivial | kernel_rfl) ?_ | refine AWP.seq ?_ | refine tX hC hP (by kernel_rfl) ?_ | refine aX hC hM hP (by kernel_rfl) ?_ | refine AWP.skip ?_ | refine AWP.label ?_ | refine AWP.exit ?_ | refine AWP.block ?_ | refine cTa ?_ | refine cFa ?_) | simp only [qS, Nat.reduceEqDiff, ↓reduceIte]))
    (refine AWP.ret ?_; refine retOk2 (by simp only [go_sem, seval, ↓reduceIte, decide_true, decide_false]; rfl) (by simp only [go_sem, seval, ↓reduceIte, decide_true, decide_false]; rfl) (by simp) ?_)
    rw [rwC, if_neg (by rw [g1]; exact fun h => by cases h)]
  | true =>
    rw [g1] at hP1
    cases g2 : (decide (0 ≤ i) && decide (i ≤ (t.length : Int) - 1 - 1)) with
    | false =>
      rw [g2] at hI1
      (repeat (first | ((with_reducible refine rgn_cons rfl (fun K hK => ?_)); simp only [go_sem, seval, ↓reduceIte, decide_true, decide_false, wid ((t.length : Int) - 1 - 1) (by omega) (by omega), wid ((t.length : Int) - 1) (by omega) (by omega)]; (first | refine hK _ _ _ (by simp only [go_sem, Nat.reduceEqDiff, ↓reduceIte]; rfl) ?_ | refine ⟨_, hP1, hK _ _ _ (by simp only [go_sem, Nat.reduceEqDiff, ↓reduceIte]; rfl) ?_⟩ | refine ⟨_, hD1, hK _ _ _ (by simp only [go_sem, Nat.reduceEqDiff, ↓reduceIte]; rfl) ?_⟩ | refine ⟨_, hI1, hK _ _ _ (by simp only [go_sem, Nat.reduceEqDiff, ↓reduceIte]; rfl) ?_⟩); clear hK; clear K) | (with_reducible first | refine rgn_nil (by first | trivial | kernel_rfl) ?_ | refine AWP.seq ?_ | refine tX hC hP (by kernel_rfl) ?_ | refine aX hC hM hP (by kernel_rfl) ?_ | refine AWP.skip ?_ | refine AWP.label ?_ | refine AWP.exit ?_ | refine AWP.block ?_ | refine cTa ?_ | refine cFa ?_) | simp only [qS, Nat.reduceEqDiff, ↓reduceIte]))
      (refine AWP.ret ?_; refine retOk2 (by simp only [go_sem, seval, ↓reduceIte, decide_true, decide_false]; rfl) (by simp only [go_sem, seval, ↓reduceIte, decide_true, decide_false]; rfl) (by simp) ?_)
      rw [rwC, if_pos g1, if_neg (by rw [g2]; exact fun h => by cases h)]
    | true => exact absurd (by rw [rwC, if_pos g1, if_pos g2]) h
-- Cuts.
def ctC (m : Int) (t : List (List Int)) (d : Int) : Int := if isPl m t = true then (if (decide (1 ≤ d) && decide (d ≤ (t.length : Int) - 1)) = true then 0 else 2) else 1
set_option maxHeartbeats 1000000 in
theorem c_impl_CutPlane_ok (m : Int) (t : List (List Int)) (d : Nat) (hsh : Shp t) (h : ctC m t d = 0) : AFn Tryz.prog 24 [.agg [.int .i64 m, .sl false 27 (rowsF t)], .int .i64 d] (.tup [.agg [.int .i64 m, .sl true 27 (rowsO (tab2 (d + 1) (pc t)))], .int .i64 0]) := by
  refine AFn.of' ttOk (by decide) Tryz.func24 Tryz.ntmps24 (by rw [Tryz.results24]) (by rfl) (by rfl) (by simp) (by decide) (by simp only [go_sem, Nat.reduceAdd, ↓reduceIte]; rfl) mixed (fun C hP hM hC => ?_)
  have ht := hsh.1
  have hP1 := c_impl_IsPlane m t hsh.sm
  have hD1 := c_impl_Plane_degree m t (by omega)
  have hI1 := c_impl_in (d : Int) 1 ((t.length : Int) - 1)
  have g1 : isPl m t = true := by
    apply Classical.byContradiction
    intro g; rw [ctC, if_neg g] at h; cases h
  have g2 : (decide ((1 : Int) ≤ (d : Int)) && decide ((d : Int) ≤ (t.length : Int) - 1)) = true := by
    apply Classical.byContradiction
    intro g; rw [ctC, if_pos g1, if_neg g] at h; cases h
  have g3 : 1 ≤ d ∧ d + 1 ≤ t.length := by
    have : (1 : Int) ≤ (d : Int) ∧ (d : Int) ≤ (t.length : Int) - 1 := by simpa using g2
    omega
  have hp := isPl_of g1
  rw [g1] at hP1
  rw [g2] at hI1
  (repeat (first | ((with_reducible refine rgn_cons rfl (fun K hK => ?_)); simp only [go_sem, seval, ↓reduceIte, decide_true, decide_false, wid ((t.length : Int) - 1) (by omega) (by omega), wid (d : Int) (by omega) (by omega)]; (first | refine hK _ _ _ (by simp only [go_sem, Nat.reduceEqDiff, ↓reduceIte]; rfl) ?_ | refine ⟨_, hP1, hK _ _ _ (by simp only [go_sem, Nat.reduceEqDiff, ↓reduceIte]; rfl) ?_⟩ | refine ⟨_, hD1, hK _ _ _ (by simp only [go_sem, Nat.reduceEqDiff, ↓reduceIte]; rfl) ?_⟩ | refine ⟨_, hI1, hK _ _ _ (by simp only [go_sem, Nat.reduceEqDiff, ↓reduceIte]; rfl) ?_⟩ | refine ⟨_, c_impl_Plane_cut_su m t t.length d hp.2.2.2.2 (by omega) (by omega), hK _ _ _ (by simp only [go_sem, Nat.reduceEqDiff, ↓reduceIte]; rfl) ?_⟩); clear hK; clear K) | (with_reducible first | refine rgn_nil (by first | trivial | kernel_rfl) ?_ | refine AWP.seq ?_ | refine tX hC hP (by kernel_rfl) ?_ | refine aX hC hM hP (by kernel_rfl) ?_ | refine AWP.skip ?_ | refine AWP.label ?_ | refine AWP.exit ?_ | refine AWP.block ?_ | refine cTa ?_ | refine cFa ?_) | simp only [qS, Nat.reduceEqDiff, ↓reduceIte]))
  (refine AWP.ret ?_; refine retOk2 (by simp only [go_sem, seval, ↓reduceIte, decide_true, decide_false]; rfl) (by simp only [go_sem, seval, ↓reduceIte, decide_true, decide_false]; rfl) (by simp) ?_)
  rfl
set_option maxHeartbeats 1000000 in
theorem c_impl_CutPlane_no (m : Int) (t : List (List Int)) (i : Int) (hsh : Shp t) (h : ctC m t i ≠ 0) : AFn Tryz.prog 24 [.agg [.int .i64 m, .sl false 27 (rowsF t)], .int .i64 i] (.tup [.agg [.int .i64 0, .nil], .int .i64 (ctC m t i)]) := by
  refine AFn.of' ttOk (by decide) Tryz.func24 Tryz.ntmps24 (by rw [Tryz.results24]) (by rfl) (by rfl) (by simp) (by decide) (by simp only [go_sem, Nat.reduceAdd, ↓reduceIte]; rfl) mixed (fun C hP hM hC => ?_)
  have ht := hsh.1
  have hP1 := c_impl_IsPlane m t hsh.sm
  have hD1 := c_impl_Plane_degree m t (by omega)
  have hI1 := c_impl_in i 1 ((t.length : Int) - 1)
  cases g1 : isPl m t with
  | false =>
    rw [g1] at hP1
    (repeat (first | ((with_reducible refine rgn_cons rfl (fun K hK => ?_)); simp only [go_sem, seval, ↓reduceIte, decide_true, decide_false]; (first | refine hK _ _ _ (by simp only [go_sem, Nat.reduceEqDiff, ↓reduceIte]; rfl) ?_ | refine ⟨_, hP1, hK _ _ _ (by simp only [go_sem, Nat.reduceEqDiff, ↓reduceIte]; rfl) ?_⟩); clear hK; clear K) | (with_reducible first | refine rgn_nil (by first | trivial | kernel_rfl) ?_ | refine AWP.seq ?_ | refine tX hC hP (by kernel_rfl) ?_ | refine aX hC hM hP (by kernel_rfl) ?_ | refine AWP.skip ?_ | refine AWP.label ?_ | refine AWP.exit ?_ | refine AWP.block ?_ | refine cTa ?_ | refine cFa ?_) | simp only [qS, Nat.reduceEqDiff, ↓reduceIte]))
    (refine AWP.ret ?_; refine retOk2 (by simp only [go_sem, seval, ↓reduceIte, decide_true, decide_false]; rfl) (by simp only [go_sem, seval, ↓reduceIte, decide_true, decide_false]; rfl) (by simp) ?_)
    rw [ctC, if_neg (by rw [g1]; exact fun h => by cases h)]
  | true =>
    rw [g1] at hP1
    cases g2 : (decide (1 ≤ i) && decide (i ≤ (t.length : Int) - 1)) with
    | false =>
      rw [g2] at hI1
      (repeat (first | ((with_reducible refine rgn_cons rfl (fun K hK => ?_)); simp only [go_sem, seval, ↓reduceIte, decide_true, decide_false, wid ((t.length : Int) - 1) (by omega) (by omega)]; (first | refine hK _ _ _ (by simp only [go_sem, Nat.reduceEqDiff, ↓reduceIte]; rfl) ?_ | refine ⟨_, hP1, hK _ _ _ (by simp only [go_sem, Nat.reduceEqDiff, ↓reduceIte]; rfl) ?_⟩ | refine ⟨_, hD1, hK _ _ _ (by simp only [go_sem, Nat.reduceEqDiff, ↓reduceIte]; rfl) ?_⟩ | refine ⟨_, hI1, hK _ _ _ (by simp only [go_sem, Nat.reduceEqDiff, ↓reduceIte]; rfl) ?_⟩); clear hK; clear K) | (with_reducible first | refine rgn_nil (by first | trivial | kernel_rfl) ?_ | refine AWP.seq ?_ | refine tX hC hP (by kernel_rfl) ?_ | refine aX hC hM hP (by kernel_rfl) ?_ | refine AWP.skip ?_ | refine AWP.label ?_ | refine AWP.exit ?_ | refine AWP.block ?_ | refine cTa ?_ | refine cFa ?_) | simp only [qS, Nat.reduceEqDiff, ↓reduceIte]))
      (refine AWP.ret ?_; refine retOk2 (by simp only [go_sem, seval, ↓reduceIte, decide_true, decide_false]; rfl) (by simp only [go_sem, seval, ↓reduceIte, decide_true, decide_false]; rfl) (by simp) ?_)
      rw [ctC, if_pos g1, if_neg (by rw [g2]; exact fun h => by cases h)]
    | true => exact absurd (by rw [ctC, if_pos g1, if_pos g2]) h
set_option maxHeartbeats 1000000 in
theorem c_spec_CutPlane_ok (m : Int) (t : List (List Int)) (d : Nat) (hsh : Shp t) (h : ctC m t d = 0) : AFn Tryz.prog 25 [.agg [.int .i64 m, .sl false 27 (rowsF t)], .int .i64 d] (.tup [.agg [.int .i64 m, .sl true 27 (rowsO (tab2 (d + 1) (pc t)))], .int .i64 0]) := by
  refine AFn.of' ttOk (by decide) Tryz.func25 Tryz.ntmps25 (by rw [Tryz.results25]) (by rfl) (by rfl) (by simp) (by decide) (by simp only [go_sem, Nat.reduceAdd, ↓reduceIte]; rfl) mixed (fun C hP hM hC => ?_)
  have ht := hsh.1
  have hP1 := c_spec_l03Is m t hsh.sm
  have hD1 := c_spec_l03Degree_su m t (by omega)
  have hI1 := c_spec_l01In (d : Int) 1 ((t.length : Int) - 1)
  have g1 : isPl m t = true := by
    apply Classical.byContradiction
    intro g; rw [ctC, if_neg g] at h; cases h
  have g2 : (decide ((1 : Int) ≤ (d : Int)) && decide ((d : Int) ≤ (t.length : Int) - 1)) = true := by
    apply Classical.byContradiction
    intro g; rw [ctC, if_pos g1, if_neg g] at h; cases h
  have g3 : 1 ≤ d ∧ d + 1 ≤ t.length := by
    have : (1 : Int) ≤ (d : Int) ∧ (d : Int) ≤ (t.length : Int) - 1 := by simpa using g2
    omega
  have hp := isPl_of g1
  rw [g1] at hP1
  rw [g2] at hI1
  (repeat (first | ((with_reducible refine rgn_cons rfl (fun K hK => ?_)); simp only [go_sem, seval, ↓reduceIte, decide_true, decide_false, wid ((t.length : Int) - 1) (by omega) (by omega), wid (d : Int) (by omega) (by omega)]; (first | refine hK _ _ _ (by simp only [go_sem, Nat.reduceEqDiff, ↓reduceIte]; rfl) ?_ | refine ⟨_, hP1, hK _ _ _ (by simp only [go_sem, Nat.reduceEqDiff, ↓reduceIte]; rfl) ?_⟩ | refine ⟨_, hD1, hK _ _ _ (by simp only [go_sem, Nat.reduceEqDiff, ↓reduceIte]; rfl) ?_⟩ | refine ⟨_, hI1, hK _ _ _ (by simp only [go_sem, Nat.reduceEqDiff, ↓reduceIte]; rfl) ?_⟩ | refine ⟨_, c_spec_l03Cut m t t.length d hp.2.2.2.2 (by omega) (by omega), hK _ _ _ (by simp only [go_sem, Nat.reduceEqDiff, ↓reduceIte]; rfl) ?_⟩ | refine ⟨_, c_spec_l03Make_su _ _, hK _ _ _ (by simp only [go_sem, Nat.reduceEqDiff, ↓reduceIte]; rfl) ?_⟩); clear hK; clear K) | (with_reducible first | refine rgn_nil (by first | trivial | kernel_rfl) ?_ | refine AWP.seq ?_ | refine tX hC hP (by kernel_rfl) ?_ | refine aX hC hM hP (by kernel_rfl) ?_ | refine AWP.skip ?_ | refine AWP.label ?_ | refine AWP.exit ?_ | refine AWP.block ?_ | refine cTa ?_ | refine cFa ?_) | simp only [qS, Nat.reduceEqDiff, ↓reduceIte]))
  (refine AWP.ret ?_; refine retOk2 (by simp only [go_sem, seval, ↓reduceIte, decide_true, decide_false]; rfl) (by simp only [go_sem, seval, ↓reduceIte, decide_true, decide_false]; rfl) (by simp) ?_)
  rfl
set_option maxHeartbeats 1000000 in
theorem c_spec_CutPlane_no (m : Int) (t : List (List Int)) (i : Int) (hsh : Shp t) (h : ctC m t i ≠ 0) : AFn Tryz.prog 25 [.agg [.int .i64 m, .sl false 27 (rowsF t)], .int .i64 i] (.tup [.agg [.int .i64 0, .nil], .int .i64 (ctC m t i)]) := by
  refine AFn.of' ttOk (by decide) Tryz.func25 Tryz.ntmps25 (by rw [Tryz.results25]) (by rfl) (by rfl) (by simp) (by decide) (by simp only [go_sem, Nat.reduceAdd, ↓reduceIte]; rfl) mixed (fun C hP hM hC => ?_)
  have ht := hsh.1
  have hP1 := c_spec_l03Is m t hsh.sm
  have hD1 := c_spec_l03Degree_su m t (by omega)
  have hI1 := c_spec_l01In i 1 ((t.length : Int) - 1)
  cases g1 : isPl m t with
  | false =>
    rw [g1] at hP1
    (repeat (first | ((with_reducible refine rgn_cons rfl (fun K hK => ?_)); simp only [go_sem, seval, ↓reduceIte, decide_true, decide_false]; (first | refine hK _ _ _ (by simp only [go_sem, Nat.reduceEqDiff, ↓reduceIte]; rfl) ?_ | refine ⟨_, hP1, hK _ _ _ (by simp only [go_sem, Nat.reduceEqDiff, ↓reduceIte]; rfl) ?_⟩); clear hK; clear K) | (with_reducible first | refine rgn_nil (by first | trivial | kernel_rfl) ?_ | refine AWP.seq ?_ | refine tX hC hP (by kernel_rfl) ?_ | refine aX hC hM hP (by kernel_rfl) ?_ | refine AWP.skip ?_ | refine AWP.label ?_ | refine AWP.exit ?_ | refine AWP.block ?_ | refine cTa ?_ | refine cFa ?_) | simp only [qS, Nat.reduceEqDiff, ↓reduceIte]))
    (refine AWP.ret ?_; refine retOk2 (by simp only [go_sem, seval, ↓reduceIte, decide_true, decide_false]; rfl) (by simp only [go_sem, seval, ↓reduceIte, decide_true, decide_false]; rfl) (by simp) ?_)
    rw [ctC, if_neg (by rw [g1]; exact fun h => by cases h)]
  | true =>
    rw [g1] at hP1
    cases g2 : (decide (1 ≤ i) && decide (i ≤ (t.length : Int) - 1)) with
    | false =>
      rw [g2] at hI1
      (repeat (first | ((with_reducible refine rgn_cons rfl (fun K hK => ?_)); simp only [go_sem, seval, ↓reduceIte, decide_true, decide_false, wid ((t.length : Int) - 1) (by omega) (by omega)]; (first | refine hK _ _ _ (by simp only [go_sem, Nat.reduceEqDiff, ↓reduceIte]; rfl) ?_ | refine ⟨_, hP1, hK _ _ _ (by simp only [go_sem, Nat.reduceEqDiff, ↓reduceIte]; rfl) ?_⟩ | refine ⟨_, hD1, hK _ _ _ (by simp only [go_sem, Nat.reduceEqDiff, ↓reduceIte]; rfl) ?_⟩ | refine ⟨_, hI1, hK _ _ _ (by simp only [go_sem, Nat.reduceEqDiff, ↓reduceIte]; rfl) ?_⟩); clear hK; clear K) | (with_reducible first | refine rgn_nil (by first | trivial | kernel_rfl) ?_ | refine AWP.seq ?_ | refine tX hC hP (by kernel_rfl) ?_ | refine aX hC hM hP (by kernel_rfl) ?_ | refine AWP.skip ?_ | refine AWP.label ?_ | refine AWP.exit ?_ | refine AWP.block ?_ | refine cTa ?_ | refine cFa ?_) | simp only [qS, Nat.reduceEqDiff, ↓reduceIte]))
      (refine AWP.ret ?_; refine retOk2 (by simp only [go_sem, seval, ↓reduceIte, decide_true, decide_false]; rfl) (by simp only [go_sem, seval, ↓reduceIte, decide_true, decide_false]; rfl) (by simp) ?_)
      rw [ctC, if_pos g1, if_neg (by rw [g2]; exact fun h => by cases h)]
    | true => exact absurd (by rw [ctC, if_pos g1, if_pos g2]) h
-- Coefficients.
def cfC (m : Int) (t : List (List Int)) (i j : Int) : Int := if isPl m t = true then (if (decide (0 ≤ i) && decide (i ≤ (t.length : Int) - 1)) = true ∧ (decide (0 ≤ j) && decide (j ≤ (t.length : Int) - 1 - i)) = true then 0 else 2) else 1
def cfV (m : Int) (t : List (List Int)) (i j : Int) : Int := if cfC m t i j = 0 then pc t i.toNat j.toNat else 0
set_option maxHeartbeats 2000000 in
theorem c_impl_CoefficientOf (m : Int) (t : List (List Int)) (i j : Int) (hsh : Shp t) : AFn Tryz.prog 30 [.agg [.int .i64 m, .sl false 27 (rowsF t)], .int .i64 i, .int .i64 j] (.tup [.int .i64 (cfV m t i j), .int .i64 (cfC m t i j)]) := by
  refine AFn.of' ttOk (by decide) Tryz.func30 Tryz.ntmps30 (by rw [Tryz.results30]) (by rfl) (by rfl) (by simp) (by decide) (by simp only [go_sem, Nat.reduceAdd, ↓reduceIte]; rfl) mixed (fun C hP hM hC => ?_)
  have ht := hsh.1
  have hP1 := c_impl_IsPlane m t hsh.sm
  have hD1 := c_impl_Plane_degree m t (by omega)
  have hI1 := c_impl_in i 0 ((t.length : Int) - 1)
  have hI2 := c_impl_in j 0 ((t.length : Int) - 1 - i)
  cases g1 : isPl m t with
  | false =>
    have hc : cfC m t i j = 1 := by rw [cfC, if_neg (by rw [g1]; exact fun h => by cases h)]
    rw [g1] at hP1
    (repeat (first | ((with_reducible refine rgn_cons rfl (fun K hK => ?_)); simp only [go_sem, seval, ↓reduceIte, decide_true, decide_false]; (first | refine hK _ _ _ (by simp only [go_sem, Nat.reduceEqDiff, ↓reduceIte]; rfl) ?_ | refine ⟨_, hP1, hK _ _ _ (by simp only [go_sem, Nat.reduceEqDiff, ↓reduceIte]; rfl) ?_⟩ | refine ⟨_, hD1, hK _ _ _ (by simp only [go_sem, Nat.reduceEqDiff, ↓reduceIte]; rfl) ?_⟩); clear hK; clear K) | (with_reducible first | refine rgn_nil (by first | trivial | kernel_rfl) ?_ | refine AWP.seq ?_ | refine tX hC hP (by kernel_rfl) ?_ | refine aX hC hM hP (by kernel_rfl) ?_ | refine AWP.skip ?_ | refine AWP.label ?_ | refine AWP.exit ?_ | refine AWP.block ?_ | refine cTa ?_ | refine cFa ?_) | simp only [qS, Nat.reduceEqDiff, ↓reduceIte]))
    (refine AWP.ret ?_; refine retOk2 (by simp only [go_sem, seval, ↓reduceIte, decide_true, decide_false]; rfl) (by simp only [go_sem, seval, ↓reduceIte, decide_true, decide_false]; rfl) (by simp) ?_)
    rw [cfV, hc, if_neg (by decide)]
  | true =>
    rw [g1] at hP1
    cases g2 : (decide (0 ≤ i) && decide (i ≤ (t.length : Int) - 1)) with
    | false =>
      have hc : cfC m t i j = 2 := by rw [cfC, if_pos g1, if_neg (by rw [g2]; exact fun h => by cases h.1)]
      rw [g2] at hI1
      (repeat (first | ((with_reducible refine rgn_cons rfl (fun K hK => ?_)); simp only [go_sem, seval, ↓reduceIte, decide_true, decide_false]; (first | refine hK _ _ _ (by simp only [go_sem, Nat.reduceEqDiff, ↓reduceIte]; rfl) ?_ | refine ⟨_, hP1, hK _ _ _ (by simp only [go_sem, Nat.reduceEqDiff, ↓reduceIte]; rfl) ?_⟩ | refine ⟨_, hD1, hK _ _ _ (by simp only [go_sem, Nat.reduceEqDiff, ↓reduceIte]; rfl) ?_⟩ | refine ⟨_, hI1, hK _ _ _ (by simp only [go_sem, Nat.reduceEqDiff, ↓reduceIte]; rfl) ?_⟩); clear hK; clear K) | (with_reducible first | refine rgn_nil (by first | trivial | kernel_rfl) ?_ | refine AWP.seq ?_ | refine tX hC hP (by kernel_rfl) ?_ | refine aX hC hM hP (by kernel_rfl) ?_ | refine AWP.skip ?_ | refine AWP.label ?_ | refine AWP.exit ?_ | refine AWP.block ?_ | refine cTa ?_ | refine cFa ?_) | simp only [qS, Nat.reduceEqDiff, ↓reduceIte]))
      (refine AWP.ret ?_; refine retOk2 (by simp only [go_sem, seval, ↓reduceIte, decide_true, decide_false]; rfl) (by simp only [go_sem, seval, ↓reduceIte, decide_true, decide_false]; rfl) (by simp) ?_)
      rw [cfV, hc, if_neg (by decide)]
    | true =>
      have g3 : 0 ≤ i ∧ i ≤ (t.length : Int) - 1 := by simpa using g2
      rw [g2] at hI1
      cases g4 : (decide (0 ≤ j) && decide (j ≤ (t.length : Int) - 1 - i)) with
      | false =>
        have hc : cfC m t i j = 2 := by rw [cfC, if_pos g1, if_neg (by rw [g4]; exact fun h => by cases h.2)]
        rw [g4] at hI2
        (repeat (first | ((with_reducible refine rgn_cons rfl (fun K hK => ?_)); simp only [go_sem, seval, ↓reduceIte, decide_true, decide_false, wid ((t.length : Int) - 1 - i) (by omega) (by omega)]; (first | refine hK _ _ _ (by simp only [go_sem, Nat.reduceEqDiff, ↓reduceIte]; rfl) ?_ | refine ⟨_, hP1, hK _ _ _ (by simp only [go_sem, Nat.reduceEqDiff, ↓reduceIte]; rfl) ?_⟩ | refine ⟨_, hD1, hK _ _ _ (by simp only [go_sem, Nat.reduceEqDiff, ↓reduceIte]; rfl) ?_⟩ | refine ⟨_, hI1, hK _ _ _ (by simp only [go_sem, Nat.reduceEqDiff, ↓reduceIte]; rfl) ?_⟩ | refine ⟨_, hI2, hK _ _ _ (by simp only [go_sem, Nat.reduceEqDiff, ↓reduceIte]; rfl) ?_⟩); clear hK; clear K) | (with_reducible first | refine rgn_nil (by first | trivial | kernel_rfl) ?_ | refine AWP.seq ?_ | refine tX hC hP (by kernel_rfl) ?_ | refine aX hC hM hP (by kernel_rfl) ?_ | refine AWP.skip ?_ | refine AWP.label ?_ | refine AWP.exit ?_ | refine AWP.block ?_ | refine cTa ?_ | refine cFa ?_) | simp only [qS, Nat.reduceEqDiff, ↓reduceIte]))
        (refine AWP.ret ?_; refine retOk2 (by simp only [go_sem, seval, ↓reduceIte, decide_true, decide_false]; rfl) (by simp only [go_sem, seval, ↓reduceIte, decide_true, decide_false]; rfl) (by simp) ?_)
        rw [cfV, hc, if_neg (by decide)]
      | true =>
        have g5 : 0 ≤ j ∧ j ≤ (t.length : Int) - 1 - i := by simpa using g4
        have hc : cfC m t i j = 0 := by rw [cfC, if_pos g1, if_pos ⟨g2, g4⟩]
        rw [g4] at hI2
        have hp := isPl_of g1
        obtain ⟨I, rfl⟩ := Int.eq_ofNat_of_zero_le g3.1
        obtain ⟨J, rfl⟩ := Int.eq_ofNat_of_zero_le g5.1
        have hr := hp.2.2.2.2.row I (by omega)
        (repeat (first | ((with_reducible refine rgn_cons rfl (fun K hK => ?_)); simp only [go_sem, seval, ↓reduceIte, decide_true, decide_false, wid ((t.length : Int) - 1 - (I : Int)) (by omega) (by omega), rowsF_length, show (I : Int) < (t.length : Int) by omega, Int.natCast_nonneg, Int.toNat_natCast, rowsF_getD t I (by omega), show (J : Int) < ((t.getD I []).length : Int) by omega, intL_getD (t.getD I []) J (by omega)]; (first | refine hK _ _ _ (by simp only [go_sem, Nat.reduceEqDiff, ↓reduceIte]; rfl) ?_ | refine ⟨_, hP1, hK _ _ _ (by simp only [go_sem, Nat.reduceEqDiff, ↓reduceIte]; rfl) ?_⟩ | refine ⟨_, hD1, hK _ _ _ (by simp only [go_sem, Nat.reduceEqDiff, ↓reduceIte]; rfl) ?_⟩ | refine ⟨_, hI1, hK _ _ _ (by simp only [go_sem, Nat.reduceEqDiff, ↓reduceIte]; rfl) ?_⟩ | refine ⟨_, hI2, hK _ _ _ (by simp only [go_sem, Nat.reduceEqDiff, ↓reduceIte]; rfl) ?_⟩); clear hK; clear K) | (with_reducible first | refine rgn_nil (by first | trivial | kernel_rfl) ?_ | refine AWP.seq ?_ | refine tX hC hP (by kernel_rfl) ?_ | refine aX hC hM hP (by kernel_rfl) ?_ | refine AWP.skip ?_ | refine AWP.label ?_ | refine AWP.exit ?_ | refine AWP.block ?_ | refine cTa ?_ | refine cFa ?_) | simp only [qS, Nat.reduceEqDiff, ↓reduceIte]))
        (refine AWP.ret ?_; refine retOk2 (by simp only [go_sem, seval, ↓reduceIte, decide_true, decide_false]; rfl) (by simp only [go_sem, seval, ↓reduceIte, decide_true, decide_false]; rfl) (by simp) ?_)
        rw [cfV, hc, if_pos rfl, Int.toNat_natCast, Int.toNat_natCast]; rfl
set_option maxHeartbeats 2000000 in
theorem c_spec_CoefficientOf (m : Int) (t : List (List Int)) (i j : Int) (hsh : Shp t) : AFn Tryz.prog 31 [.agg [.int .i64 m, .sl false 27 (rowsF t)], .int .i64 i, .int .i64 j] (.tup [.int .i64 (cfV m t i j), .int .i64 (cfC m t i j)]) := by
  refine AFn.of' ttOk (by decide) Tryz.func31 Tryz.ntmps31 (by rw [Tryz.results31]) (by rfl) (by rfl) (by simp) (by decide) (by simp only [go_sem, Nat.reduceAdd, ↓reduceIte]; rfl) mixed (fun C hP hM hC => ?_)
  have ht := hsh.1
  have hP1 := c_spec_l03Is m t hsh.sm
  have hD1 := c_spec_l03Degree_su m t (by omega)
  have hI1 := c_spec_l01In i 0 ((t.length : Int) - 1)
  have hI2 := c_spec_l01In j 0 ((t.length : Int) - 1 - i)
  cases g1 : isPl m t with
  | false =>
    have hc : cfC m t i j = 1 := by rw [cfC, if_neg (by rw [g1]; exact fun h => by cases h)]
    rw [g1] at hP1
    (repeat (first | ((with_reducible refine rgn_cons rfl (fun K hK => ?_)); simp only [go_sem, seval, ↓reduceIte, decide_true, decide_false]; (first | refine hK _ _ _ (by simp only [go_sem, Nat.reduceEqDiff, ↓reduceIte]; rfl) ?_ | refine ⟨_, hP1, hK _ _ _ (by simp only [go_sem, Nat.reduceEqDiff, ↓reduceIte]; rfl) ?_⟩ | refine ⟨_, hD1, hK _ _ _ (by simp only [go_sem, Nat.reduceEqDiff, ↓reduceIte]; rfl) ?_⟩); clear hK; clear K) | (with_reducible first | refine rgn_nil (by first | trivial | kernel_rfl) ?_ | refine AWP.seq ?_ | refine tX hC hP (by kernel_rfl) ?_ | refine aX hC hM hP (by kernel_rfl) ?_ | refine AWP.skip ?_ | refine AWP.label ?_ | refine AWP.exit ?_ | refine AWP.block ?_ | refine cTa ?_ | refine cFa ?_) | simp only [qS, Nat.reduceEqDiff, ↓reduceIte]))
    (refine AWP.ret ?_; refine retOk2 (by simp only [go_sem, seval, ↓reduceIte, decide_true, decide_false]; rfl) (by simp only [go_sem, seval, ↓reduceIte, decide_true, decide_false]; rfl) (by simp) ?_)
    rw [cfV, hc, if_neg (by decide)]
  | true =>
    rw [g1] at hP1
    cases g2 : (decide (0 ≤ i) && decide (i ≤ (t.length : Int) - 1)) with
    | false =>
      have hc : cfC m t i j = 2 := by rw [cfC, if_pos g1, if_neg (by rw [g2]; exact fun h => by cases h.1)]
      rw [g2] at hI1
      (repeat (first | ((with_reducible refine rgn_cons rfl (fun K hK => ?_)); simp only [go_sem, seval, ↓reduceIte, decide_true, decide_false]; (first | refine hK _ _ _ (by simp only [go_sem, Nat.reduceEqDiff, ↓reduceIte]; rfl) ?_ | refine ⟨_, hP1, hK _ _ _ (by simp only [go_sem, Nat.reduceEqDiff, ↓reduceIte]; rfl) ?_⟩ | refine ⟨_, hD1, hK _ _ _ (by simp only [go_sem, Nat.reduceEqDiff, ↓reduceIte]; rfl) ?_⟩ | refine ⟨_, hI1, hK _ _ _ (by simp only [go_sem, Nat.reduceEqDiff, ↓reduceIte]; rfl) ?_⟩); clear hK; clear K) | (with_reducible first | refine rgn_nil (by first | trivial | kernel_rfl) ?_ | refine AWP.seq ?_ | refine tX hC hP (by kernel_rfl) ?_ | refine aX hC hM hP (by kernel_rfl) ?_ | refine AWP.skip ?_ | refine AWP.label ?_ | refine AWP.exit ?_ | refine AWP.block ?_ | refine cTa ?_ | refine cFa ?_) | simp only [qS, Nat.reduceEqDiff, ↓reduceIte]))
      (refine AWP.ret ?_; refine retOk2 (by simp only [go_sem, seval, ↓reduceIte, decide_true, decide_false]; rfl) (by simp only [go_sem, seval, ↓reduceIte, decide_true, decide_false]; rfl) (by simp) ?_)
      rw [cfV, hc, if_neg (by decide)]
    | true =>
      have g3 : 0 ≤ i ∧ i ≤ (t.length : Int) - 1 := by simpa using g2
      rw [g2] at hI1
      cases g4 : (decide (0 ≤ j) && decide (j ≤ (t.length : Int) - 1 - i)) with
      | false =>
        have hc : cfC m t i j = 2 := by rw [cfC, if_pos g1, if_neg (by rw [g4]; exact fun h => by cases h.2)]
        rw [g4] at hI2
        (repeat (first | ((with_reducible refine rgn_cons rfl (fun K hK => ?_)); simp only [go_sem, seval, ↓reduceIte, decide_true, decide_false, wid ((t.length : Int) - 1 - i) (by omega) (by omega)]; (first | refine hK _ _ _ (by simp only [go_sem, Nat.reduceEqDiff, ↓reduceIte]; rfl) ?_ | refine ⟨_, hP1, hK _ _ _ (by simp only [go_sem, Nat.reduceEqDiff, ↓reduceIte]; rfl) ?_⟩ | refine ⟨_, hD1, hK _ _ _ (by simp only [go_sem, Nat.reduceEqDiff, ↓reduceIte]; rfl) ?_⟩ | refine ⟨_, hI1, hK _ _ _ (by simp only [go_sem, Nat.reduceEqDiff, ↓reduceIte]; rfl) ?_⟩ | refine ⟨_, hI2, hK _ _ _ (by simp only [go_sem, Nat.reduceEqDiff, ↓reduceIte]; rfl) ?_⟩); clear hK; clear K) | (with_reducible first | refine rgn_nil (by first | trivial | kernel_rfl) ?_ | refine AWP.seq ?_ | refine tX hC hP (by kernel_rfl) ?_ | refine aX hC hM hP (by kernel_rfl) ?_ | refine AWP.skip ?_ | refine AWP.label ?_ | refine AWP.exit ?_ | refine AWP.block ?_ | refine cTa ?_ | refine cFa ?_) | simp only [qS, Nat.reduceEqDiff, ↓reduceIte]))
        (refine AWP.ret ?_; refine retOk2 (by simp only [go_sem, seval, ↓reduceIte, decide_true, decide_false]; rfl) (by simp only [go_sem, seval, ↓reduceIte, decide_true, decide_false]; rfl) (by simp) ?_)
        rw [cfV, hc, if_neg (by decide)]
      | true =>
        have g5 : 0 ≤ j ∧ j ≤ (t.length : Int) - 1 - i := by simpa using g4
        have hc : cfC m t i j = 0 := by rw [cfC, if_pos g1, if_pos ⟨g2, g4⟩]
        rw [g4] at hI2
        have hp := isPl_of g1
        obtain ⟨I, rfl⟩ := Int.eq_ofNat_of_zero_le g3.1
        obtain ⟨J, rfl⟩ := Int.eq_ofNat_of_zero_le g5.1
        have hr := hp.2.2.2.2.row I (by omega)
        (repeat (first | ((with_reducible refine rgn_cons rfl (fun K hK => ?_)); simp only [go_sem, seval, ↓reduceIte, decide_true, decide_false, wid ((t.length : Int) - 1 - (I : Int)) (by omega) (by omega), rowsF_length, show (I : Int) < (t.length : Int) by omega, Int.natCast_nonneg, Int.toNat_natCast, rowsF_getD t I (by omega), show (J : Int) < ((t.getD I []).length : Int) by omega, intL_getD (t.getD I []) J (by omega)]; (first | refine hK _ _ _ (by simp only [go_sem, Nat.reduceEqDiff, ↓reduceIte]; rfl) ?_ | refine ⟨_, hP1, hK _ _ _ (by simp only [go_sem, Nat.reduceEqDiff, ↓reduceIte]; rfl) ?_⟩ | refine ⟨_, hD1, hK _ _ _ (by simp only [go_sem, Nat.reduceEqDiff, ↓reduceIte]; rfl) ?_⟩ | refine ⟨_, hI1, hK _ _ _ (by simp only [go_sem, Nat.reduceEqDiff, ↓reduceIte]; rfl) ?_⟩ | refine ⟨_, hI2, hK _ _ _ (by simp only [go_sem, Nat.reduceEqDiff, ↓reduceIte]; rfl) ?_⟩); clear hK; clear K) | (with_reducible first | refine rgn_nil (by first | trivial | kernel_rfl) ?_ | refine AWP.seq ?_ | refine tX hC hP (by kernel_rfl) ?_ | refine aX hC hM hP (by kernel_rfl) ?_ | refine AWP.skip ?_ | refine AWP.label ?_ | refine AWP.exit ?_ | refine AWP.block ?_ | refine cTa ?_ | refine cFa ?_) | simp only [qS, Nat.reduceEqDiff, ↓reduceIte]))
        (refine AWP.ret ?_; refine retOk2 (by simp only [go_sem, seval, ↓reduceIte, decide_true, decide_false]; rfl) (by simp only [go_sem, seval, ↓reduceIte, decide_true, decide_false]; rfl) (by simp) ?_)
        rw [cfV, hc, if_pos rfl, Int.toNat_natCast, Int.toNat_natCast]; rfl
-- Other moduli.
def rmL (k : Int) (l : List Int) : List Int := l.map (fun x => x.tmod k)
theorem rmL_take (k : Int) (l : List Int) {i : Nat} (h : i < l.length) : rmL k (l.take i) ++ [(l.getD i 0).tmod k] = rmL k (l.take (i + 1)) := by
  have e : l.take (i + 1) = l.take i ++ [l.getD i 0] := by
    rw [List.take_add_one, List.getD_eq_getElem?_getD, List.getElem?_eq_getElem h]; rfl
  rw [e]; simp [rmL]
theorem rmL_length (k : Int) (l : List Int) : (rmL k l).length = l.length := by simp [rmL]
set_option maxHeartbeats 1000000 in
theorem c_impl_remainders_su (k : Int) (l : List Int) (hk : k ≠ 0) (hl : l.length ≤ 1000) : AFn Tryz.prog 108 [.sl false 2 (intL l), .int .i64 k] (.sl true 2 (intL (rmL k l))) := by
  refine AFn.of' ttOk (by decide) Tryz.func108 Tryz.ntmps108 (by rw [Tryz.results108]) (by rfl) (by rfl) (by simp) (by decide) (by simp only [go_sem, Nat.reduceAdd, ↓reduceIte]; rfl) mixed (fun C hP hM hC => ?_)
  (repeat (first | ((with_reducible refine rgn_cons rfl (fun K hK => ?_)); simp only [go_sem, seval, ↓reduceIte, decide_true, decide_false]; (refine hK _ _ _ (by simp only [go_sem, Nat.reduceEqDiff, ↓reduceIte]; rfl) ?_); clear hK; clear K) | (with_reducible first | refine rgn_nil (by first | trivial | kernel_rfl) ?_ | refine AWP.seq ?_ | refine tX hC hP (by kernel_rfl) ?_ | refine aX hC hM hP (by kernel_rfl) ?_ | refine AWP.skip ?_ | refine AWP.label ?_ | refine AWP.exit ?_ | refine AWP.block ?_ | refine cTa ?_ | refine cFa ?_) | simp only [qS, Nat.reduceEqDiff, ↓reduceIte]))
  refine AWP.loop (fun x : Nat × Nat => [(11, ⟨0, .val (.int .i64 x.1)⟩), (10, ⟨0, .val (.int .i64 l.length)⟩), (9, ⟨0, .val (.sl false 2 (intL l))⟩), (5, ⟨x.2, .own (.sl true 2 (intL (rmL k (l.take x.1))))⟩), (1, ⟨0, .val (.int .i64 k)⟩)]) (fun x => x.1 ≤ l.length) (fun x => l.length - x.1) (0, 1) (Nat.zero_le _) (fun i => rfl) ?_ (fun x hi => ?_)
  · simp [Sub, lk, rmL, intL]
  · obtain ⟨i, v⟩ := x
    simp only at hi ⊢
    by_cases hlt : i < l.length
    · have hsn := rmL_take k l hlt
      have hll : (rmL k (l.take i)).length = i := by rw [rmL_length, List.length_take]; omega
      (repeat (first | ((with_reducible refine rgn_cons rfl (fun K hK => ?_)); simp only [go_sem, seval, ↓reduceIte, decide_true, decide_false, show (i : Int) < (l.length : Int) by omega, decide_true, Int.toNat_natCast, Int.natCast_nonneg, intL_getD l i hlt, hk, hll, intL_snoc, hsn, show i + 1 ≤ 1099511627776 by omega, show (i + 1) * 8 ≤ 140737488355328 by omega, wid ((i : Int) + 1) (by omega) (by omega)]; (refine hK _ _ _ (by simp only [go_sem, Nat.reduceEqDiff, ↓reduceIte]; rfl) ?_); clear hK; clear K) | (with_reducible first | refine rgn_nil (by first | trivial | kernel_rfl) ?_ | refine AWP.seq ?_ | refine tX hC hP (by kernel_rfl) ?_ | refine aX hC hM hP (by kernel_rfl) ?_ | refine AWP.skip ?_ | refine AWP.label ?_ | refine AWP.exit ?_ | refine AWP.block ?_ | refine cTa ?_ | refine cFa ?_) | simp only [qS, Nat.reduceEqDiff, ↓reduceIte]))
      exact ⟨(i + 1, v + 1), by simp only; omega, by simp only; omega, by simp [Sub, lk]⟩
    · (repeat (first | ((with_reducible refine rgn_cons rfl (fun K hK => ?_)); simp only [go_sem, seval, ↓reduceIte, decide_true, decide_false, show ¬ (i : Int) < (l.length : Int) by omega, decide_false]; (refine hK _ _ _ (by simp only [go_sem, Nat.reduceEqDiff, ↓reduceIte]; rfl) ?_); clear hK; clear K) | (with_reducible first | refine rgn_nil (by first | trivial | kernel_rfl) ?_ | refine AWP.seq ?_ | refine tX hC hP (by kernel_rfl) ?_ | refine aX hC hM hP (by kernel_rfl) ?_ | refine AWP.skip ?_ | refine AWP.label ?_ | refine AWP.exit ?_ | refine AWP.block ?_ | refine cTa ?_ | refine cFa ?_) | simp only [qS, Nat.reduceEqDiff, ↓reduceIte]))
      (refine AWP.ret ?_; refine retOk1 (by simp only [go_sem, seval, ↓reduceIte, decide_true, decide_false]; rfl) ?_)
      rw [List.take_of_length_le (by omega)]
set_option maxHeartbeats 1000000 in
theorem c_spec_l02Rest (k : Int) (l : List Int) (hk : k ≠ 0) (hl : l.length ≤ 1000) : AFn Tryz.prog 110 [.int .i64 k, .sl false 2 (intL l)] (.sl true 2 (intL (rmL k l))) := by
  refine AFn.of' ttOk (by decide) Tryz.func110 Tryz.ntmps110 (by rw [Tryz.results110]) (by rfl) (by rfl) (by simp) (by decide) (by simp only [go_sem, Nat.reduceAdd, ↓reduceIte]; rfl) mixed (fun C hP hM hC => ?_)
  (repeat (first | ((with_reducible refine rgn_cons rfl (fun K hK => ?_)); simp only [go_sem, seval, ↓reduceIte, decide_true, decide_false]; (refine hK _ _ _ (by simp only [go_sem, Nat.reduceEqDiff, ↓reduceIte]; rfl) ?_); clear hK; clear K) | (with_reducible first | refine rgn_nil (by first | trivial | kernel_rfl) ?_ | refine AWP.seq ?_ | refine tX hC hP (by kernel_rfl) ?_ | refine aX hC hM hP (by kernel_rfl) ?_ | refine AWP.skip ?_ | refine AWP.label ?_ | refine AWP.exit ?_ | refine AWP.block ?_ | refine cTa ?_ | refine cFa ?_) | simp only [qS, Nat.reduceEqDiff, ↓reduceIte]))
  refine AWP.loop (fun x : Nat × Nat => [(6, ⟨0, .val (.int .i64 x.1)⟩), (1, ⟨0, .val (.sl false 2 (intL l))⟩), (5, ⟨x.2, .own (.sl true 2 (intL (rmL k (l.take x.1))))⟩), (0, ⟨0, .val (.int .i64 k)⟩)]) (fun x => x.1 ≤ l.length) (fun x => l.length - x.1) (0, 1) (Nat.zero_le _) (fun i => rfl) ?_ (fun x hi => ?_)
  · simp [Sub, lk, rmL, intL]
  · obtain ⟨i, v⟩ := x
    simp only at hi ⊢
    by_cases hlt : i < l.length
    · have hsn := rmL_take k l hlt
      have hll : (rmL k (l.take i)).length = i := by rw [rmL_length, List.length_take]; omega
      (repeat (first | ((with_reducible refine rgn_cons rfl (fun K hK => ?_)); simp only [go_sem, seval, ↓reduceIte, decide_true, decide_false, show (i : Int) < (l.length : Int) by omega, decide_true, Int.toNat_natCast, Int.natCast_nonneg, intL_getD l i hlt, hk, hll, intL_snoc, hsn, show i + 1 ≤ 1099511627776 by omega, show (i + 1) * 8 ≤ 140737488355328 by omega, wid ((i : Int) + 1) (by omega) (by omega)]; (refine hK _ _ _ (by simp only [go_sem, Nat.reduceEqDiff, ↓reduceIte]; rfl) ?_); clear hK; clear K) | (with_reducible first | refine rgn_nil (by first | trivial | kernel_rfl) ?_ | refine AWP.seq ?_ | refine tX hC hP (by kernel_rfl) ?_ | refine aX hC hM hP (by kernel_rfl) ?_ | refine AWP.skip ?_ | refine AWP.label ?_ | refine AWP.exit ?_ | refine AWP.block ?_ | refine cTa ?_ | refine cFa ?_) | simp only [qS, Nat.reduceEqDiff, ↓reduceIte]))
      exact ⟨(i + 1, v + 1), by simp only; omega, by simp only; omega, by simp [Sub, lk]⟩
    · (repeat (first | ((with_reducible refine rgn_cons rfl (fun K hK => ?_)); simp only [go_sem, seval, ↓reduceIte, decide_true, decide_false, show ¬ (i : Int) < (l.length : Int) by omega, decide_false]; (refine hK _ _ _ (by simp only [go_sem, Nat.reduceEqDiff, ↓reduceIte]; rfl) ?_); clear hK; clear K) | (with_reducible first | refine rgn_nil (by first | trivial | kernel_rfl) ?_ | refine AWP.seq ?_ | refine tX hC hP (by kernel_rfl) ?_ | refine aX hC hM hP (by kernel_rfl) ?_ | refine AWP.skip ?_ | refine AWP.label ?_ | refine AWP.exit ?_ | refine AWP.block ?_ | refine cTa ?_ | refine cFa ?_) | simp only [qS, Nat.reduceEqDiff, ↓reduceIte]))
      (refine AWP.ret ?_; refine retOk1 (by simp only [go_sem, seval, ↓reduceIte, decide_true, decide_false]; rfl) ?_)
      rw [List.take_of_length_le (by omega)]
def cgC (m : Int) (t : List (List Int)) (k : Int) : Int := if isPl m t = true then (if (decide (2 ≤ k) && decide (k ≤ 10000)) = true ∧ (m.tmod k == 0) = true then 0 else 2) else 1
def cgL (k : Int) (t : List (List Int)) : List (List Int) := t.map (rmL k)
theorem cgL_take (k : Int) (t : List (List Int)) {i : Nat} (h : i < t.length) : cgL k (t.take i) ++ [rmL k (t.getD i [])] = cgL k (t.take (i + 1)) := by
  have e : t.take (i + 1) = t.take i ++ [t.getD i []] := by
    rw [List.take_add_one, List.getD_eq_getElem?_getD, List.getElem?_eq_getElem h]; rfl
  rw [e]; simp [cgL]
theorem cgL_length (k : Int) (t : List (List Int)) : (cgL k t).length = t.length := by simp [cgL]
set_option maxHeartbeats 1000000 in
theorem c_impl_divides (k m : Int) (b : Bool) (h : ((decide (2 ≤ k) && decide (k ≤ 10000)) && (m.tmod k == 0)) = b) : AFn Tryz.prog 107 [.int .i64 k, .int .i64 m] (.bool b) := by
  refine AFn.of' ttOk (by decide) Tryz.func107 Tryz.ntmps107 (by rw [Tryz.results107]) (by rfl) (by rfl) (by simp) (by decide) (by simp only [go_sem, Nat.reduceAdd, ↓reduceIte]; rfl) mixed (fun C hP hM hC => ?_)
  have hM1 := c_impl_IsModulus k
  cases g : (decide (2 ≤ k) && decide (k ≤ 10000)) with
  | false =>
    rw [g] at hM1 h
    rw [Bool.false_and] at h
    subst h
    (repeat (first | ((with_reducible refine rgn_cons rfl (fun K hK => ?_)); simp only [go_sem, seval, ↓reduceIte, decide_true, decide_false]; (first | refine hK _ _ _ (by simp only [go_sem, Nat.reduceEqDiff, ↓reduceIte]; rfl) ?_ | refine ⟨_, hM1, hK _ _ _ (by simp only [go_sem, Nat.reduceEqDiff, ↓reduceIte]; rfl) ?_⟩); clear hK; clear K) | (with_reducible first | refine rgn_nil (by first | trivial | kernel_rfl) ?_ | refine AWP.seq ?_ | refine tX hC hP (by kernel_rfl) ?_ | refine aX hC hM hP (by kernel_rfl) ?_ | refine AWP.skip ?_ | refine AWP.label ?_ | refine AWP.exit ?_ | refine AWP.block ?_ | refine cTa ?_ | refine cFa ?_) | simp only [qS, Nat.reduceEqDiff, ↓reduceIte]))
    (refine AWP.ret ?_; refine retOk1 (by simp only [go_sem, seval, ↓reduceIte, decide_true, decide_false]; rfl) ?_)
    rfl
  | true =>
    have g2 : 2 ≤ k ∧ k ≤ 10000 := by simpa using g
    rw [g] at hM1 h
    rw [Bool.true_and] at h
    subst h
    (repeat (first | ((with_reducible refine rgn_cons rfl (fun K hK => ?_)); simp only [go_sem, seval, ↓reduceIte, decide_true, decide_false, show k ≠ 0 by omega]; (first | refine hK _ _ _ (by simp only [go_sem, Nat.reduceEqDiff, ↓reduceIte]; rfl) ?_ | refine ⟨_, hM1, hK _ _ _ (by simp only [go_sem, Nat.reduceEqDiff, ↓reduceIte]; rfl) ?_⟩); clear hK; clear K) | (with_reducible first | refine rgn_nil (by first | trivial | kernel_rfl) ?_ | refine AWP.seq ?_ | refine tX hC hP (by kernel_rfl) ?_ | refine aX hC hM hP (by kernel_rfl) ?_ | refine AWP.skip ?_ | refine AWP.label ?_ | refine AWP.exit ?_ | refine AWP.block ?_ | refine cTa ?_ | refine cFa ?_) | simp only [qS, Nat.reduceEqDiff, ↓reduceIte]))
    (refine AWP.ret ?_; refine retOk1 (by simp only [go_sem, seval, ↓reduceIte, decide_true, decide_false]; rfl) ?_)
    rfl
set_option maxHeartbeats 4000000 in
theorem c_impl_ChangePlane_ok (m k : Int) (t : List (List Int)) (hsh : Shp t) (h : cgC m t k = 0) : AFn Tryz.prog 27 [.agg [.int .i64 m, .sl false 27 (rowsF t)], .int .i64 k] (.tup [.agg [.int .i64 k, .sl true 27 (rowsO (cgL k t))], .int .i64 0]) := by
  refine AFn.of' ttOk (by decide) Tryz.func27 Tryz.ntmps27 (by rw [Tryz.results27]) (by rfl) (by rfl) (by simp) (by decide) (by simp only [go_sem, Nat.reduceAdd, ↓reduceIte]; rfl) mixed (fun C hP hM hC => ?_)
  have ht := hsh.1
  have hP1 := c_impl_IsPlane m t hsh.sm
  have g1 : isPl m t = true := by
    apply Classical.byContradiction
    intro g; rw [cgC, if_neg g] at h; cases h
  have g2 : (decide (2 ≤ k) && decide (k ≤ 10000)) = true ∧ (m.tmod k == 0) = true := by
    apply Classical.byContradiction
    intro g; rw [cgC, if_pos g1, if_neg g] at h; cases h
  have hk0 : 2 ≤ k ∧ k ≤ 10000 := by simpa using g2.1
  have hp := isPl_of g1
  rw [g1] at hP1
  have hD1 := c_impl_divides k m true (by rw [g2.1, g2.2]; rfl)
  (repeat (first | ((with_reducible refine rgn_cons rfl (fun K hK => ?_)); simp only [go_sem, seval, ↓reduceIte, decide_true, decide_false, rowsF_length]; (first | refine hK _ _ _ (by simp only [go_sem, Nat.reduceEqDiff, ↓reduceIte]; rfl) ?_ | refine ⟨_, hP1, hK _ _ _ (by simp only [go_sem, Nat.reduceEqDiff, ↓reduceIte]; rfl) ?_⟩ | refine ⟨_, hD1, hK _ _ _ (by simp only [go_sem, Nat.reduceEqDiff, ↓reduceIte]; rfl) ?_⟩); clear hK; clear K) | (with_reducible first | refine rgn_nil (by first | trivial | kernel_rfl) ?_ | refine AWP.seq ?_ | refine tX hC hP (by kernel_rfl) ?_ | refine aX hC hM hP (by kernel_rfl) ?_ | refine AWP.skip ?_ | refine AWP.label ?_ | refine AWP.exit ?_ | refine AWP.block ?_ | refine cTa ?_ | refine cFa ?_) | simp only [qS, Nat.reduceEqDiff, ↓reduceIte]))
  refine AWP.loop (fun w : Nat × Nat => match w with
    | (0, v) => [(26, ⟨0, .val (.int .i64 0)⟩), (25, ⟨0, .val (.int .i64 t.length)⟩), (24, ⟨0, .val (.sl false 27 (rowsF t))⟩), (6, ⟨v, .own (.box 26 (.agg [.int .i64 k, .nil]))⟩), (1, ⟨0, .val (.int .i64 k)⟩), (4, ⟨1, .own (.box 26 (.agg [.int .i64 0, .nil]))⟩)]
    | (i + 1, v) => [(26, ⟨0, .val (.int .i64 (i + 1 : Nat))⟩), (25, ⟨0, .val (.int .i64 t.length)⟩), (24, ⟨0, .val (.sl false 27 (rowsF t))⟩), (6, ⟨v, .own (.box 26 (.agg [.int .i64 k, .sl true 27 (rowsO (cgL k (t.take (i + 1))))]))⟩), (1, ⟨0, .val (.int .i64 k)⟩), (4, ⟨1, .own (.box 26 (.agg [.int .i64 0, .nil]))⟩)]) (fun w => w.1 ≤ t.length) (fun w => t.length - w.1) (0, 2) (Nat.zero_le _) (fun i => by obtain ⟨i, v⟩ := i; cases i <;> rfl) ?_ (fun w hw => ?_)
  · simp [Sub, lk]
  · obtain ⟨i, v⟩ := w
    simp only at hw
    by_cases hi : i < t.length
    · have hrow := (hsh.row hi).1
      have hR1 := c_impl_remainders_su k (t.getD i []) (by omega) hrow
      have hsn := cgL_take k t hi
      have hll : (cgL k (t.take i)).length = i := by rw [cgL_length, List.length_take]; omega
      cases i with
      | zero =>
        simp only
        (repeat (first | ((with_reducible refine rgn_cons rfl (fun K hK => ?_)); simp only [go_sem, seval, ↓reduceIte, decide_true, decide_false, show (0 : Int) < (t.length : Int) by omega, decide_true, rowsF_length, Int.le_refl, Int.toNat_zero, rowsF_getD t 0 hi]; (first | refine hK _ _ _ (by simp only [go_sem, Nat.reduceEqDiff, ↓reduceIte]; rfl) ?_ | refine ⟨_, hR1, hK _ _ _ (by simp only [go_sem, Nat.reduceEqDiff, ↓reduceIte]; rfl) ?_⟩); clear hK; clear K) | (with_reducible first | refine rgn_nil (by first | trivial | kernel_rfl) ?_ | refine AWP.seq ?_ | refine tX hC hP (by kernel_rfl) ?_ | refine aX hC hM hP (by kernel_rfl) ?_ | refine AWP.skip ?_ | refine AWP.label ?_ | refine AWP.exit ?_ | refine AWP.block ?_ | refine cTa ?_ | refine cFa ?_) | simp only [qS, Nat.reduceEqDiff, ↓reduceIte]))
        exact ⟨(1, v + 1), by simp only; omega, by simp only; omega, by
          have e : cgL k (t.take 1) = [rmL k (t.getD 0 [])] := by rw [← hsn]; rfl
          simp [Sub, lk, e, rowsO, show IntKind.i64.wrap 1 = 1 by decide]⟩
      | succ i =>
        simp only
        (repeat (first | ((with_reducible refine rgn_cons rfl (fun K hK => ?_)); simp only [go_sem, seval, ↓reduceIte, decide_true, decide_false, show ((i + 1 : Nat) : Int) < (t.length : Int) by omega, decide_true, rowsF_length, Int.natCast_nonneg, Int.toNat_natCast, rowsF_getD t (i + 1) hi, hll, rowsO_snocT, hsn, show i + 1 + 1 ≤ 1099511627776 by omega, show (i + 1 + 1) * 24 ≤ 140737488355328 by omega, wid (((i + 1 : Nat) : Int) + 1) (by omega) (by omega)]; (first | refine hK _ _ _ (by simp only [go_sem, Nat.reduceEqDiff, ↓reduceIte]; rfl) ?_ | refine ⟨_, hR1, hK _ _ _ (by simp only [go_sem, Nat.reduceEqDiff, ↓reduceIte]; rfl) ?_⟩); clear hK; clear K) | (with_reducible first | refine rgn_nil (by first | trivial | kernel_rfl) ?_ | refine AWP.seq ?_ | refine tX hC hP (by kernel_rfl) ?_ | refine aX hC hM hP (by kernel_rfl) ?_ | refine AWP.skip ?_ | refine AWP.label ?_ | refine AWP.exit ?_ | refine AWP.block ?_ | refine cTa ?_ | refine cFa ?_) | simp only [qS, Nat.reduceEqDiff, ↓reduceIte]))
        exact ⟨(i + 1 + 1, v + 1), by simp only; omega, by simp only; omega, by simp [Sub, lk]⟩
    · have e : i = t.length := by omega
      subst e
      have hpos : 0 < t.length := by omega
      obtain ⟨q, hq⟩ : ∃ q, t.length = q + 1 := ⟨t.length - 1, by omega⟩
      have htk : t.take (q + 1) = t := List.take_of_length_le (by omega)
      rw [hq]
      simp only
      (repeat (first | ((with_reducible refine rgn_cons rfl (fun K hK => ?_)); simp only [go_sem, seval, ↓reduceIte, decide_true, decide_false, show ¬ ((q + 1 : Nat) : Int) < ((q + 1 : Nat) : Int) by omega, decide_false, htk]; (refine hK _ _ _ (by simp only [go_sem, Nat.reduceEqDiff, ↓reduceIte]; rfl) ?_); clear hK; clear K) | (with_reducible first | refine rgn_nil (by first | trivial | kernel_rfl) ?_ | refine AWP.seq ?_ | refine tX hC hP (by kernel_rfl) ?_ | refine aX hC hM hP (by kernel_rfl) ?_ | refine AWP.skip ?_ | refine AWP.label ?_ | refine AWP.exit ?_ | refine AWP.block ?_ | refine cTa ?_ | refine cFa ?_) | simp only [qS, Nat.reduceEqDiff, ↓reduceIte]))
      (refine AWP.ret ?_; refine retOk2 (by simp only [go_sem, seval, ↓reduceIte, decide_true, decide_false]; rfl) (by simp only [go_sem, seval, ↓reduceIte, decide_true, decide_false]; rfl) (by simp) ?_)
      rfl
set_option maxHeartbeats 2000000 in
theorem c_impl_ChangePlane_no (m k : Int) (t : List (List Int)) (hsh : Shp t) (h : cgC m t k ≠ 0) : AFn Tryz.prog 27 [.agg [.int .i64 m, .sl false 27 (rowsF t)], .int .i64 k] (.tup [.agg [.int .i64 0, .nil], .int .i64 (cgC m t k)]) := by
  refine AFn.of' ttOk (by decide) Tryz.func27 Tryz.ntmps27 (by rw [Tryz.results27]) (by rfl) (by rfl) (by simp) (by decide) (by simp only [go_sem, Nat.reduceAdd, ↓reduceIte]; rfl) mixed (fun C hP hM hC => ?_)
  have hP1 := c_impl_IsPlane m t hsh.sm
  cases g1 : isPl m t with
  | false =>
    rw [g1] at hP1
    (repeat (first | ((with_reducible refine rgn_cons rfl (fun K hK => ?_)); simp only [go_sem, seval, ↓reduceIte, decide_true, decide_false]; (first | refine hK _ _ _ (by simp only [go_sem, Nat.reduceEqDiff, ↓reduceIte]; rfl) ?_ | refine ⟨_, hP1, hK _ _ _ (by simp only [go_sem, Nat.reduceEqDiff, ↓reduceIte]; rfl) ?_⟩); clear hK; clear K) | (with_reducible first | refine rgn_nil (by first | trivial | kernel_rfl) ?_ | refine AWP.seq ?_ | refine tX hC hP (by kernel_rfl) ?_ | refine aX hC hM hP (by kernel_rfl) ?_ | refine AWP.skip ?_ | refine AWP.label ?_ | refine AWP.exit ?_ | refine AWP.block ?_ | refine cTa ?_ | refine cFa ?_) | simp only [qS, Nat.reduceEqDiff, ↓reduceIte]))
    (refine AWP.ret ?_; refine retOk2 (by simp only [go_sem, seval, ↓reduceIte, decide_true, decide_false]; rfl) (by simp only [go_sem, seval, ↓reduceIte, decide_true, decide_false]; rfl) (by simp) ?_)
    rw [cgC, if_neg (by rw [g1]; exact fun h => by cases h)]
  | true =>
    rw [g1] at hP1
    have g2 : ¬ ((decide (2 ≤ k) && decide (k ≤ 10000)) = true ∧ (m.tmod k == 0) = true) := fun g => h (by rw [cgC, if_pos g1, if_pos g])
    have hD1 := c_impl_divides k m false (by
      cases e1 : (decide (2 ≤ k) && decide (k ≤ 10000)) with
      | false => rfl
      | true =>
        cases e2 : (m.tmod k == 0) with
        | false => rfl
        | true => exact absurd ⟨e1, e2⟩ g2)
    (repeat (first | ((with_reducible refine rgn_cons rfl (fun K hK => ?_)); simp only [go_sem, seval, ↓reduceIte, decide_true, decide_false]; (first | refine hK _ _ _ (by simp only [go_sem, Nat.reduceEqDiff, ↓reduceIte]; rfl) ?_ | refine ⟨_, hP1, hK _ _ _ (by simp only [go_sem, Nat.reduceEqDiff, ↓reduceIte]; rfl) ?_⟩ | refine ⟨_, hD1, hK _ _ _ (by simp only [go_sem, Nat.reduceEqDiff, ↓reduceIte]; rfl) ?_⟩); clear hK; clear K) | (with_reducible first | refine rgn_nil (by first | trivial | kernel_rfl) ?_ | refine AWP.seq ?_ | refine tX hC hP (by kernel_rfl) ?_ | refine aX hC hM hP (by kernel_rfl) ?_ | refine AWP.skip ?_ | refine AWP.label ?_ | refine AWP.exit ?_ | refine AWP.block ?_ | refine cTa ?_ | refine cFa ?_) | simp only [qS, Nat.reduceEqDiff, ↓reduceIte]))
    (refine AWP.ret ?_; refine retOk2 (by simp only [go_sem, seval, ↓reduceIte, decide_true, decide_false]; rfl) (by simp only [go_sem, seval, ↓reduceIte, decide_true, decide_false]; rfl) (by simp) ?_)
    rw [cgC, if_pos g1, if_neg g2]
set_option maxHeartbeats 4000000 in
theorem c_spec_ChangePlane_ok (m k : Int) (t : List (List Int)) (hsh : Shp t) (h : cgC m t k = 0) : AFn Tryz.prog 28 [.agg [.int .i64 m, .sl false 27 (rowsF t)], .int .i64 k] (.tup [.agg [.int .i64 k, .sl true 27 (rowsO (cgL k t))], .int .i64 0]) := by
  refine AFn.of' ttOk (by decide) Tryz.func28 Tryz.ntmps28 (by rw [Tryz.results28]) (by rfl) (by rfl) (by simp) (by decide) (by simp only [go_sem, Nat.reduceAdd, ↓reduceIte]; rfl) mixed (fun C hP hM hC => ?_)
  have ht := hsh.1
  have hP1 := c_spec_l03Is m t hsh.sm
  have g1 : isPl m t = true := by
    apply Classical.byContradiction
    intro g; rw [cgC, if_neg g] at h; cases h
  have g2 : (decide (2 ≤ k) && decide (k ≤ 10000)) = true ∧ (m.tmod k == 0) = true := by
    apply Classical.byContradiction
    intro g; rw [cgC, if_pos g1, if_neg g] at h; cases h
  have hk0 : 2 ≤ k ∧ k ≤ 10000 := by simpa using g2.1
  have hp := isPl_of g1
  rw [g1] at hP1
  have hM1 := c_spec_l01Modulus k
  rw [g2.1] at hM1
  have g3 : (m.tmod k != 0) = false := by rw [bne_eq_false_iff_eq]; exact beq_iff_eq.1 g2.2
  (repeat (first | ((with_reducible refine rgn_cons rfl (fun K hK => ?_)); simp only [go_sem, seval, ↓reduceIte, decide_true, decide_false, show k ≠ 0 by omega, g3]; (first | refine hK _ _ _ (by simp only [go_sem, Nat.reduceEqDiff, ↓reduceIte]; rfl) ?_ | refine ⟨_, hP1, hK _ _ _ (by simp only [go_sem, Nat.reduceEqDiff, ↓reduceIte]; rfl) ?_⟩ | refine ⟨_, hM1, hK _ _ _ (by simp only [go_sem, Nat.reduceEqDiff, ↓reduceIte]; rfl) ?_⟩); clear hK; clear K) | (with_reducible first | refine rgn_nil (by first | trivial | kernel_rfl) ?_ | refine AWP.seq ?_ | refine tX hC hP (by kernel_rfl) ?_ | refine aX hC hM hP (by kernel_rfl) ?_ | refine AWP.skip ?_ | refine AWP.label ?_ | refine AWP.exit ?_ | refine AWP.block ?_ | refine cTa ?_ | refine cFa ?_) | simp only [qS, Nat.reduceEqDiff, ↓reduceIte]))
  refine AWP.loop (fun x : Nat × Nat => [(7, ⟨0, .val (.int .i64 x.1)⟩), (6, ⟨x.2, .own (.sl true 27 (rowsO (cgL k (t.take x.1))))⟩), (1, ⟨0, .val (.int .i64 k)⟩), (2, ⟨1, .own (.box 26 (.agg [.int .i64 m, .sl false 27 (rowsF t)]))⟩), (4, ⟨1, .own (.box 26 (.agg [.int .i64 0, .nil]))⟩)]) (fun x => x.1 ≤ t.length) (fun x => t.length - x.1) (0, 1) (Nat.zero_le _) (fun i => rfl) ?_ (fun x hi => ?_)
  · simp [Sub, lk, cgL, rowsO]
  · obtain ⟨i, v⟩ := x
    simp only at hi ⊢
    by_cases hlt : i < t.length
    · have hrow := (hsh.row hlt).1
      have hR1 := c_spec_l02Rest k (t.getD i []) (by omega) hrow
      have hsn := cgL_take k t hlt
      have hll : (cgL k (t.take i)).length = i := by rw [cgL_length, List.length_take]; omega
      (repeat (first | ((with_reducible refine rgn_cons rfl (fun K hK => ?_)); simp only [go_sem, seval, ↓reduceIte, decide_true, decide_false, show (i : Int) < (t.length : Int) by omega, decide_true, rowsF_length, Int.natCast_nonneg, Int.toNat_natCast, rowsF_getD t i hlt, hll, rowsO_snocT, hsn, show i + 1 ≤ 1099511627776 by omega, show (i + 1) * 24 ≤ 140737488355328 by omega, wid ((i : Int) + 1) (by omega) (by omega)]; (first | refine hK _ _ _ (by simp only [go_sem, Nat.reduceEqDiff, ↓reduceIte]; rfl) ?_ | refine ⟨_, hR1, hK _ _ _ (by simp only [go_sem, Nat.reduceEqDiff, ↓reduceIte]; rfl) ?_⟩); clear hK; clear K) | (with_reducible first | refine rgn_nil (by first | trivial | kernel_rfl) ?_ | refine AWP.seq ?_ | refine tX hC hP (by kernel_rfl) ?_ | refine aX hC hM hP (by kernel_rfl) ?_ | refine AWP.skip ?_ | refine AWP.label ?_ | refine AWP.exit ?_ | refine AWP.block ?_ | refine cTa ?_ | refine cFa ?_) | simp only [qS, Nat.reduceEqDiff, ↓reduceIte]))
      exact ⟨(i + 1, v + 1), by simp only; omega, by simp only; omega, by simp [Sub, lk]⟩
    · (repeat (first | ((with_reducible refine rgn_cons rfl (fun K hK => ?_)); simp only [go_sem, seval, ↓reduceIte, decide_true, decide_false, rowsF_length, show ¬ (i : Int) < (t.length : Int) by omega, decide_false, List.take_of_length_le (show t.length ≤ i by omega)]; (first | refine hK _ _ _ (by simp only [go_sem, Nat.reduceEqDiff, ↓reduceIte]; rfl) ?_ | refine ⟨_, c_spec_l03Make_su _ _, hK _ _ _ (by simp only [go_sem, Nat.reduceEqDiff, ↓reduceIte]; rfl) ?_⟩); clear hK; clear K) | (with_reducible first | refine rgn_nil (by first | trivial | kernel_rfl) ?_ | refine AWP.seq ?_ | refine tX hC hP (by kernel_rfl) ?_ | refine aX hC hM hP (by kernel_rfl) ?_ | refine AWP.skip ?_ | refine AWP.label ?_ | refine AWP.exit ?_ | refine AWP.block ?_ | refine cTa ?_ | refine cFa ?_) | simp only [qS, Nat.reduceEqDiff, ↓reduceIte]))
      (refine AWP.ret ?_; refine retOk2 (by simp only [go_sem, seval, ↓reduceIte, decide_true, decide_false]; rfl) (by simp only [go_sem, seval, ↓reduceIte, decide_true, decide_false]; rfl) (by simp) ?_)
      rfl
set_option maxHeartbeats 2000000 in
theorem c_spec_ChangePlane_no (m k : Int) (t : List (List Int)) (hsh : Shp t) (h : cgC m t k ≠ 0) : AFn Tryz.prog 28 [.agg [.int .i64 m, .sl false 27 (rowsF t)], .int .i64 k] (.tup [.agg [.int .i64 0, .nil], .int .i64 (cgC m t k)]) := by
  refine AFn.of' ttOk (by decide) Tryz.func28 Tryz.ntmps28 (by rw [Tryz.results28]) (by rfl) (by rfl) (by simp) (by decide) (by simp only [go_sem, Nat.reduceAdd, ↓reduceIte]; rfl) mixed (fun C hP hM hC => ?_)
  have hP1 := c_spec_l03Is m t hsh.sm
  have hM1 := c_spec_l01Modulus k
  cases g1 : isPl m t with
  | false =>
    rw [g1] at hP1
    (repeat (first | ((with_reducible refine rgn_cons rfl (fun K hK => ?_)); simp only [go_sem, seval, ↓reduceIte, decide_true, decide_false]; (first | refine hK _ _ _ (by simp only [go_sem, Nat.reduceEqDiff, ↓reduceIte]; rfl) ?_ | refine ⟨_, hP1, hK _ _ _ (by simp only [go_sem, Nat.reduceEqDiff, ↓reduceIte]; rfl) ?_⟩); clear hK; clear K) | (with_reducible first | refine rgn_nil (by first | trivial | kernel_rfl) ?_ | refine AWP.seq ?_ | refine tX hC hP (by kernel_rfl) ?_ | refine aX hC hM hP (by kernel_rfl) ?_ | refine AWP.skip ?_ | refine AWP.label ?_ | refine AWP.exit ?_ | refine AWP.block ?_ | refine cTa ?_ | refine cFa ?_) | simp only [qS, Nat.reduceEqDiff, ↓reduceIte]))
    (refine AWP.ret ?_; refine retOk2 (by simp only [go_sem, seval, ↓reduceIte, decide_true, decide_false]; rfl) (by simp only [go_sem, seval, ↓reduceIte, decide_true, decide_false]; rfl) (by simp) ?_)
    rw [cgC, if_neg (by rw [g1]; exact fun h => by cases h)]
  | true =>
    rw [g1] at hP1
    cases g2 : (decide (2 ≤ k) && decide (k ≤ 10000)) with
    | false =>
      rw [g2] at hM1
      (repeat (first | ((with_reducible refine rgn_cons rfl (fun K hK => ?_)); simp only [go_sem, seval, ↓reduceIte, decide_true, decide_false]; (first | refine hK _ _ _ (by simp only [go_sem, Nat.reduceEqDiff, ↓reduceIte]; rfl) ?_ | refine ⟨_, hP1, hK _ _ _ (by simp only [go_sem, Nat.reduceEqDiff, ↓reduceIte]; rfl) ?_⟩ | refine ⟨_, hM1, hK _ _ _ (by simp only [go_sem, Nat.reduceEqDiff, ↓reduceIte]; rfl) ?_⟩); clear hK; clear K) | (with_reducible first | refine rgn_nil (by first | trivial | kernel_rfl) ?_ | refine AWP.seq ?_ | refine tX hC hP (by kernel_rfl) ?_ | refine aX hC hM hP (by kernel_rfl) ?_ | refine AWP.skip ?_ | refine AWP.label ?_ | refine AWP.exit ?_ | refine AWP.block ?_ | refine cTa ?_ | refine cFa ?_) | simp only [qS, Nat.reduceEqDiff, ↓reduceIte]))
      (refine AWP.ret ?_; refine retOk2 (by simp only [go_sem, seval, ↓reduceIte, decide_true, decide_false]; rfl) (by simp only [go_sem, seval, ↓reduceIte, decide_true, decide_false]; rfl) (by simp) ?_)
      rw [cgC, if_pos g1, if_neg (by rw [g2]; exact fun h => by cases h.1)]
    | true =>
      have hk0 : 2 ≤ k ∧ k ≤ 10000 := by simpa using g2
      rw [g2] at hM1
      have g3 : ¬ (m.tmod k == 0) = true := fun g => h (by rw [cgC, if_pos g1, if_pos ⟨g2, g⟩])
      have g4 : (m.tmod k != 0) = true := by rw [bne_iff_ne]; exact fun e => g3 (beq_iff_eq.2 e)
      (repeat (first | ((with_reducible refine rgn_cons rfl (fun K hK => ?_)); simp only [go_sem, seval, ↓reduceIte, decide_true, decide_false, show k ≠ 0 by omega, g4]; (first | refine hK _ _ _ (by simp only [go_sem, Nat.reduceEqDiff, ↓reduceIte]; rfl) ?_ | refine ⟨_, hP1, hK _ _ _ (by simp only [go_sem, Nat.reduceEqDiff, ↓reduceIte]; rfl) ?_⟩ | refine ⟨_, hM1, hK _ _ _ (by simp only [go_sem, Nat.reduceEqDiff, ↓reduceIte]; rfl) ?_⟩); clear hK; clear K) | (with_reducible first | refine rgn_nil (by first | trivial | kernel_rfl) ?_ | refine AWP.seq ?_ | refine tX hC hP (by kernel_rfl) ?_ | refine aX hC hM hP (by kernel_rfl) ?_ | refine AWP.skip ?_ | refine AWP.label ?_ | refine AWP.exit ?_ | refine AWP.block ?_ | refine cTa ?_ | refine cFa ?_) | simp only [qS, Nat.reduceEqDiff, ↓reduceIte]))
      (refine AWP.ret ?_; refine retOk2 (by simp only [go_sem, seval, ↓reduceIte, decide_true, decide_false]; rfl) (by simp only [go_sem, seval, ↓reduceIte, decide_true, decide_false]; rfl) (by simp) ?_)
      rw [cgC, if_pos g1, if_neg (fun h => g3 h.2)]
-- Tables compared with themselves.
set_option maxHeartbeats 1000000 in
theorem c_laws_rows5 (t : List (List Int)) (hsh : t.length ≤ 1000 ∧ ∀ i, (t.getD i []).length ≤ 1000) : AFn Tryz.prog 79 [.sl false 27 (rowsF t), .sl false 27 (rowsF t)] (.bool true) := by
  refine AFn.of' ttOk (by decide) Tryz.func79 Tryz.ntmps79 (by rw [Tryz.results79]) (by rfl) (by rfl) (by simp) (by decide) (by simp only [go_sem, Nat.reduceAdd, ↓reduceIte]; rfl) mixed (fun C hP hM hC => ?_)
  have ht := hsh.1
  (repeat (first | ((with_reducible refine rgn_cons rfl (fun K hK => ?_)); simp only [go_sem, seval, ↓reduceIte, decide_true, decide_false, bne_self_eq_false, rowsF_length]; (refine hK _ _ _ (by simp only [go_sem, Nat.reduceEqDiff, ↓reduceIte]; rfl) ?_); clear hK; clear K) | (with_reducible first | refine rgn_nil (by first | trivial | kernel_rfl) ?_ | refine AWP.seq ?_ | refine tX hC hP (by kernel_rfl) ?_ | refine aX hC hM hP (by kernel_rfl) ?_ | refine AWP.skip ?_ | refine AWP.label ?_ | refine AWP.exit ?_ | refine AWP.block ?_ | refine cTa ?_ | refine cFa ?_) | simp only [qS, Nat.reduceEqDiff, ↓reduceIte]))
  refine AWP.loop (fun i : Nat => [(5, ⟨0, .val (.int .i64 i)⟩), (0, ⟨0, .val (.sl false 27 (rowsF t))⟩), (1, ⟨0, .val (.sl false 27 (rowsF t))⟩)]) (fun i => i ≤ t.length) (fun i => t.length - i) 0 (Nat.zero_le _) (fun i => rfl) ?_ (fun i hi => ?_)
  · simp [Sub, lk]
  · by_cases h : i < t.length
    · have hl := c_laws_likeInts (t.getD i []) (by have := hsh.2 i; omega)
      (repeat (first | ((with_reducible refine rgn_cons rfl (fun K hK => ?_)); simp only [go_sem, seval, ↓reduceIte, decide_true, decide_false, rowsF_length, show (i : Int) < (t.length : Int) by omega, decide_true, rowsF_getD t i h, Int.natCast_nonneg, Int.toNat_natCast, wid ((i : Int) + 1) (by omega) (by omega)]; (first | refine hK _ _ _ (by simp only [go_sem, Nat.reduceEqDiff, ↓reduceIte]; rfl) ?_ | refine ⟨_, hl, hK _ _ _ (by simp only [go_sem, Nat.reduceEqDiff, ↓reduceIte]; rfl) ?_⟩); clear hK; clear K) | (with_reducible first | refine rgn_nil (by first | trivial | kernel_rfl) ?_ | refine AWP.seq ?_ | refine tX hC hP (by kernel_rfl) ?_ | refine aX hC hM hP (by kernel_rfl) ?_ | refine AWP.skip ?_ | refine AWP.label ?_ | refine AWP.exit ?_ | refine AWP.block ?_ | refine cTa ?_ | refine cFa ?_) | simp only [qS, Nat.reduceEqDiff, ↓reduceIte]))
      exact ⟨i + 1, h, by omega, by simp [Sub, lk]⟩
    · (repeat (first | ((with_reducible refine rgn_cons rfl (fun K hK => ?_)); simp only [go_sem, seval, ↓reduceIte, decide_true, decide_false, rowsF_length, show ¬ (i : Int) < (t.length : Int) by omega, decide_false]; (refine hK _ _ _ (by simp only [go_sem, Nat.reduceEqDiff, ↓reduceIte]; rfl) ?_); clear hK; clear K) | (with_reducible first | refine rgn_nil (by first | trivial | kernel_rfl) ?_ | refine AWP.seq ?_ | refine tX hC hP (by kernel_rfl) ?_ | refine aX hC hM hP (by kernel_rfl) ?_ | refine AWP.skip ?_ | refine AWP.label ?_ | refine AWP.exit ?_ | refine AWP.block ?_ | refine cTa ?_ | refine cFa ?_) | simp only [qS, Nat.reduceEqDiff, ↓reduceIte]))
      (refine AWP.ret ?_; refine retOk1 (by simp only [go_sem, seval, ↓reduceIte, decide_true, decide_false]; rfl) ?_)
      rfl
set_option maxHeartbeats 1000000 in
theorem c_laws_plane5 (m : Int) (t : List (List Int)) (hsh : t.length ≤ 1000 ∧ ∀ i, (t.getD i []).length ≤ 1000) : AFn Tryz.prog 13 [.agg [.int .i64 m, .sl false 27 (rowsF t)], .agg [.int .i64 m, .sl false 27 (rowsF t)]] (.bool true) := by
  refine AFn.of' ttOk (by decide) Tryz.func13 Tryz.ntmps13 (by rw [Tryz.results13]) (by rfl) (by rfl) (by simp) (by decide) (by simp only [go_sem, Nat.reduceAdd, ↓reduceIte]; rfl) mixed (fun C hP hM hC => ?_)
  (repeat (first | ((with_reducible refine rgn_cons rfl (fun K hK => ?_)); simp only [go_sem, seval, ↓reduceIte, decide_true, decide_false, beq_self_eq_true]; (first | refine hK _ _ _ (by simp only [go_sem, Nat.reduceEqDiff, ↓reduceIte]; rfl) ?_ | refine ⟨_, c_laws_rows5 t hsh, hK _ _ _ (by simp only [go_sem, Nat.reduceEqDiff, ↓reduceIte]; rfl) ?_⟩); clear hK; clear K) | (with_reducible first | refine rgn_nil (by first | trivial | kernel_rfl) ?_ | refine AWP.seq ?_ | refine tX hC hP (by kernel_rfl) ?_ | refine aX hC hM hP (by kernel_rfl) ?_ | refine AWP.skip ?_ | refine AWP.label ?_ | refine AWP.exit ?_ | refine AWP.block ?_ | refine cTa ?_ | refine cFa ?_) | simp only [qS, Nat.reduceEqDiff, ↓reduceIte]))
  (refine AWP.ret ?_; refine retOk1 (by simp only [go_sem, seval, ↓reduceIte, decide_true, decide_false]; rfl) ?_)
  rfl
end Go.Proofs.YtapdekacpecgiaaGreat
