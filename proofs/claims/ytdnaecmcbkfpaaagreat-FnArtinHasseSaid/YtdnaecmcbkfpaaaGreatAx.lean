/-
  Sums of Witt vectors, products of series; comparisons.
-/
import Derived.Test.YtdnaecmcbkfpaaaGreatAw
import Derived.Test.YtdnaecmcbkfpaaaGreatBy
import Derived.Test.YtdnaecmcbkfpaaaGreatVz
import Derived.Test.YtdnaecmcbkfpaaaGreatLi
import Derived.Test.YtdnaecmcbkfpaaaGreatHg
namespace Go.Proofs.YtdnaecmcbkfpaaaGreat
open Go.RowKit
set_option linter.unusedSimpArgs false
set_option linter.unusedVariables false
set_option linter.unusedSectionVars false
set_option maxRecDepth 20000
-- Sums of Witt vectors, products of series; comparisons.
set_option maxHeartbeats 1000000 in
theorem c_impl_Witt_alike_w (p m : Int) (x y : List Int) (hx : x.length ≤ 1000) (hyl : y.length = x.length) : AFn Tryz.prog 86 [.agg [.int .i64 p, .int .i64 m, .sl false 2 (intL x)], .agg [.int .i64 p, .int .i64 m, .sl false 2 (intL y)]] (.bool true) := by
  refine AFn.of' ttOk (by decide) Tryz.func86 Tryz.ntmps86 (by rw [Tryz.results86]) (by rfl) (by rfl) (by simp) (by decide) (by simp only [go_sem, Nat.reduceAdd, ↓reduceIte]; rfl) mixed (fun C hP hM hC => ?_)
  (repeat (first | ((with_reducible refine rgn_cons rfl (fun K hK => ?_)); simp only [go_sem, seval, ↓reduceIte, decide_true, decide_false, beq_self_eq_true, hyl]; (refine hK _ _ _ (by simp only [go_sem, Nat.reduceEqDiff, ↓reduceIte]; rfl) ?_); clear hK; clear K) | (with_reducible first | refine rgn_nil (by first | trivial | kernel_rfl) ?_ | refine AWP.seq ?_ | refine tX hC hP (by kernel_rfl) ?_ | refine aX hC hM hP (by kernel_rfl) ?_ | refine AWP.skip ?_ | refine AWP.label ?_ | refine AWP.exit ?_ | refine AWP.block ?_ | refine cTa ?_ | refine cFa ?_) | simp only [qS, Nat.reduceEqDiff, ↓reduceIte]))
  (refine AWP.ret ?_; refine retOk1 (by simp only [go_sem, seval, ↓reduceIte, decide_true, decide_false]; rfl) ?_)
  rfl
set_option maxHeartbeats 1000000 in
theorem c_impl_twoWitt_ok (p m : Int) (x y : List Int) (hx : isWt p m x = true) (hy : isWt p m y = true) (hyl : y.length = x.length) : AFn Tryz.prog 59 [.agg [.int .i64 p, .int .i64 m, .sl false 2 (intL x)], .agg [.int .i64 p, .int .i64 m, .sl false 2 (intL y)]] (.int .i64 0) := by
  refine AFn.of' ttOk (by decide) Tryz.func59 Tryz.ntmps59 (by rw [Tryz.results59]) (by rfl) (by rfl) (by simp) (by decide) (by simp only [go_sem, Nat.reduceAdd, ↓reduceIte]; rfl) mixed (fun C hP hM hC => ?_)
  have f1 := isWt_of hx
  have hA := c_impl_IsWitt p m x (by omega)
  have hB := c_impl_IsWitt p m y (by omega)
  rw [hx] at hA
  rw [hy] at hB
  (repeat (first | ((with_reducible refine rgn_cons rfl (fun K hK => ?_)); simp only [go_sem, seval, ↓reduceIte, decide_true, decide_false]; (first | refine hK _ _ _ (by simp only [go_sem, Nat.reduceEqDiff, ↓reduceIte]; rfl) ?_ | refine ⟨_, hA, hK _ _ _ (by simp only [go_sem, Nat.reduceEqDiff, ↓reduceIte]; rfl) ?_⟩ | refine ⟨_, hB, hK _ _ _ (by simp only [go_sem, Nat.reduceEqDiff, ↓reduceIte]; rfl) ?_⟩ | refine ⟨_, c_impl_Witt_alike_w p m x y (by omega) hyl, hK _ _ _ (by simp only [go_sem, Nat.reduceEqDiff, ↓reduceIte]; rfl) ?_⟩); clear hK; clear K) | (with_reducible first | refine rgn_nil (by first | trivial | kernel_rfl) ?_ | refine AWP.seq ?_ | refine tX hC hP (by kernel_rfl) ?_ | refine aX hC hM hP (by kernel_rfl) ?_ | refine AWP.skip ?_ | refine AWP.label ?_ | refine AWP.exit ?_ | refine AWP.block ?_ | refine cTa ?_ | refine cFa ?_) | simp only [qS, Nat.reduceEqDiff, ↓reduceIte]))
  (refine AWP.ret ?_; refine retOk1 (by simp only [go_sem, seval, ↓reduceIte, decide_true, decide_false]; rfl) ?_)
  rfl
set_option maxHeartbeats 1000000 in
theorem c_impl_AddWitt_nat (p : Nat) (m : Int) (x y : List Int) (hx : isWt p m x = true) (hy : isWt p m y = true) (hyl : y.length = x.length) : AFn Tryz.prog 22 [.agg [.int .i64 p, .int .i64 m, .sl false 2 (intL x)], .agg [.int .i64 p, .int .i64 m, .sl false 2 (intL y)]] (.tup [.agg [.int .i64 p, .int .i64 m, .sl true 2 (intL (awL m p x y x.length))], .int .i64 0]) := by
  refine AFn.of' ttOk (by decide) Tryz.func22 Tryz.ntmps22 (by rw [Tryz.results22]) (by rfl) (by rfl) (by simp) (by decide) (by simp only [go_sem, Nat.reduceAdd, ↓reduceIte]; rfl) mixed (fun C hP hM hC => ?_)
  have f1 := isWt_of hx
  have f2 := isWt_of hy
  have hp := typB_of f1.1
  rw [Int.toNat_natCast] at hp
  have hpb := hp.1.b
  have hp4 : p ^ 4 ≤ 2401 := Nat.le_trans (Nat.pow_le_pow_left hpb.2 4) (by decide)
  have hp4' : 0 < p ^ 4 := Nat.pow_pos (by omega)
  have hw1 : 0 < m * ((p ^ 4 : Nat) : Int) := Int.mul_pos (by omega) (by omega)
  have hw2 : m * ((p ^ 4 : Nat) : Int) ≤ 24010000 := by
    have := Int.mul_le_mul (show m ≤ 10000 by omega) (show ((p ^ 4 : Nat) : Int) ≤ 2401 by omega) (by omega) (by omega)
    omega
  have hJ := c_impl_Witt_joined p m _ x y hpb.1 hpb.2 (by omega) f1.2.2.1 rfl hw1 hw2 f1.2.2.2.2.1 hyl (fun z hz => by have := f1.2.2.2.2.2 z hz; omega) (fun z hz => by have := f2.2.2.2.2.2 z hz; omega)
  (repeat (first | ((with_reducible refine rgn_cons rfl (fun K hK => ?_)); simp only [go_sem, seval, ↓reduceIte, decide_true, decide_false]; (first | refine hK _ _ _ (by simp only [go_sem, Nat.reduceEqDiff, ↓reduceIte]; rfl) ?_ | refine ⟨_, c_impl_twoWitt_ok p m x y hx hy hyl, hK _ _ _ (by simp only [go_sem, Nat.reduceEqDiff, ↓reduceIte]; rfl) ?_⟩ | refine ⟨_, hJ, hK _ _ _ (by simp only [go_sem, Nat.reduceEqDiff, ↓reduceIte]; rfl) ?_⟩); clear hK; clear K) | (with_reducible first | refine rgn_nil (by first | trivial | kernel_rfl) ?_ | refine AWP.seq ?_ | refine tX hC hP (by kernel_rfl) ?_ | refine aX hC hM hP (by kernel_rfl) ?_ | refine AWP.skip ?_ | refine AWP.label ?_ | refine AWP.exit ?_ | refine AWP.block ?_ | refine cTa ?_ | refine cFa ?_) | simp only [qS, Nat.reduceEqDiff, ↓reduceIte]))
  (refine AWP.ret ?_; refine retOk2 (by simp only [go_sem, seval, ↓reduceIte, decide_true, decide_false]; rfl) (by simp only [go_sem, seval, ↓reduceIte, decide_true, decide_false]; rfl) (by simp) ?_)
  rfl
theorem isSer_num {m : Int} {l : List Int} (h : isSer m l = true) : ∀ x ∈ l, 0 ≤ x ∧ x < m := fun x hx => by
  have := (isSer_len h).2.2.2.2 x hx; omega
set_option maxHeartbeats 1000000 in
theorem c_impl_bothSeries_ok (m : Int) (x y : List Int) (hx : isSer m x = true) (hy : isSer m y = true) (hyl : y.length = x.length) : AFn Tryz.prog 62 [.agg [.int .i64 m, .sl false 2 (intL x)], .agg [.int .i64 m, .sl false 2 (intL y)]] (.int .i64 0) := by
  refine AFn.of' ttOk (by decide) Tryz.func62 Tryz.ntmps62 (by rw [Tryz.results62]) (by rfl) (by rfl) (by simp) (by decide) (by simp only [go_sem, Nat.reduceAdd, ↓reduceIte]; rfl) mixed (fun C hP hM hC => ?_)
  have f1 := isSer_len hx
  have hA := c_impl_IsSeries m x (by omega)
  have hB := c_impl_IsSeries m y (by omega)
  have hC2 := c_impl_Series_alike m m x y (by omega) (by omega)
  rw [hx] at hA
  rw [hy] at hB
  rw [show alikeB m x m y = true by simp [alikeB, hyl]] at hC2
  (repeat (first | ((with_reducible refine rgn_cons rfl (fun K hK => ?_)); simp only [go_sem, seval, ↓reduceIte, decide_true, decide_false]; (first | refine hK _ _ _ (by simp only [go_sem, Nat.reduceEqDiff, ↓reduceIte]; rfl) ?_ | refine ⟨_, hA, hK _ _ _ (by simp only [go_sem, Nat.reduceEqDiff, ↓reduceIte]; rfl) ?_⟩ | refine ⟨_, hB, hK _ _ _ (by simp only [go_sem, Nat.reduceEqDiff, ↓reduceIte]; rfl) ?_⟩ | refine ⟨_, hC2, hK _ _ _ (by simp only [go_sem, Nat.reduceEqDiff, ↓reduceIte]; rfl) ?_⟩); clear hK; clear K) | (with_reducible first | refine rgn_nil (by first | trivial | kernel_rfl) ?_ | refine AWP.seq ?_ | refine tX hC hP (by kernel_rfl) ?_ | refine aX hC hM hP (by kernel_rfl) ?_ | refine AWP.skip ?_ | refine AWP.label ?_ | refine AWP.exit ?_ | refine AWP.block ?_ | refine cTa ?_ | refine cFa ?_) | simp only [qS, Nat.reduceEqDiff, ↓reduceIte]))
  (refine AWP.ret ?_; refine retOk1 (by simp only [go_sem, seval, ↓reduceIte, decide_true, decide_false]; rfl) ?_)
  rfl
set_option maxHeartbeats 1000000 in
theorem c_impl_MultiplySeries_ok (m : Int) (x y : List Int) (d : Nat) (hx : isSer m x = true) (hy : isSer m y = true) (hxl : x.length = d + 1) (hyl : y.length = d + 1) : AFn Tryz.prog 23 [.agg [.int .i64 m, .sl false 2 (intL x)], .agg [.int .i64 m, .sl false 2 (intL y)]] (.tup [.agg [.int .i64 m, .sl true 2 (intL (timesL m x y d))], .int .i64 0]) := by
  refine AFn.of' ttOk (by decide) Tryz.func23 Tryz.ntmps23 (by rw [Tryz.results23]) (by rfl) (by rfl) (by simp) (by decide) (by simp only [go_sem, Nat.reduceAdd, ↓reduceIte]; rfl) mixed (fun C hP hM hC => ?_)
  have f1 := isSer_len hx
  have hT := c_impl_Series_times m x y d (by omega) (by omega) (isSer_num hx) (isSer_num hy) hxl hyl (by omega)
  (repeat (first | ((with_reducible refine rgn_cons rfl (fun K hK => ?_)); simp only [go_sem, seval, ↓reduceIte, decide_true, decide_false]; (first | refine hK _ _ _ (by simp only [go_sem, Nat.reduceEqDiff, ↓reduceIte]; rfl) ?_ | refine ⟨_, c_impl_bothSeries_ok m x y hx hy (by omega), hK _ _ _ (by simp only [go_sem, Nat.reduceEqDiff, ↓reduceIte]; rfl) ?_⟩ | refine ⟨_, hT, hK _ _ _ (by simp only [go_sem, Nat.reduceEqDiff, ↓reduceIte]; rfl) ?_⟩); clear hK; clear K) | (with_reducible first | refine rgn_nil (by first | trivial | kernel_rfl) ?_ | refine AWP.seq ?_ | refine tX hC hP (by kernel_rfl) ?_ | refine aX hC hM hP (by kernel_rfl) ?_ | refine AWP.skip ?_ | refine AWP.label ?_ | refine AWP.exit ?_ | refine AWP.block ?_ | refine cTa ?_ | refine cFa ?_) | simp only [qS, Nat.reduceEqDiff, ↓reduceIte]))
  (refine AWP.ret ?_; refine retOk2 (by simp only [go_sem, seval, ↓reduceIte, decide_true, decide_false]; rfl) (by simp only [go_sem, seval, ↓reduceIte, decide_true, decide_false]; rfl) (by simp) ?_)
  rfl
set_option maxHeartbeats 1000000 in
theorem c_laws_series9 (m : Int) (l : List Int) (hl : l.length ≤ 1099511627776) : AFn Tryz.prog 11 [.agg [.int .i64 m, .sl false 2 (intL l)], .agg [.int .i64 m, .sl false 2 (intL l)]] (.bool true) := by
  refine AFn.of' ttOk (by decide) Tryz.func11 Tryz.ntmps11 (by rw [Tryz.results11]) (by rfl) (by rfl) (by simp) (by decide) (by simp only [go_sem, Nat.reduceAdd, ↓reduceIte]; rfl) mixed (fun C hP hM hC => ?_)
  (repeat (first | ((with_reducible refine rgn_cons rfl (fun K hK => ?_)); simp only [go_sem, seval, ↓reduceIte, decide_true, decide_false, beq_self_eq_true]; (first | refine hK _ _ _ (by simp only [go_sem, Nat.reduceEqDiff, ↓reduceIte]; rfl) ?_ | refine ⟨_, c_laws_likeInts l hl, hK _ _ _ (by simp only [go_sem, Nat.reduceEqDiff, ↓reduceIte]; rfl) ?_⟩); clear hK; clear K) | (with_reducible first | refine rgn_nil (by first | trivial | kernel_rfl) ?_ | refine AWP.seq ?_ | refine tX hC hP (by kernel_rfl) ?_ | refine aX hC hM hP (by kernel_rfl) ?_ | refine AWP.skip ?_ | refine AWP.label ?_ | refine AWP.exit ?_ | refine AWP.block ?_ | refine cTa ?_ | refine cFa ?_) | simp only [qS, Nat.reduceEqDiff, ↓reduceIte]))
  (refine AWP.ret ?_; refine retOk1 (by simp only [go_sem, seval, ↓reduceIte, decide_true, decide_false]; rfl) ?_)
  rfl
set_option maxHeartbeats 1000000 in
theorem c_laws_series9_nil (m : Int) : AFn Tryz.prog 11 [.agg [.int .i64 m, .nil], .agg [.int .i64 m, .nil]] (.bool true) := by
  refine AFn.of' ttOk (by decide) Tryz.func11 Tryz.ntmps11 (by rw [Tryz.results11]) (by rfl) (by rfl) (by simp) (by decide) (by simp only [go_sem, Nat.reduceAdd, ↓reduceIte]; rfl) mixed (fun C hP hM hC => ?_)
  (repeat (first | ((with_reducible refine rgn_cons rfl (fun K hK => ?_)); simp only [go_sem, seval, ↓reduceIte, decide_true, decide_false, beq_self_eq_true]; (first | refine hK _ _ _ (by simp only [go_sem, Nat.reduceEqDiff, ↓reduceIte]; rfl) ?_ | refine ⟨_, c_laws_likeInts_nil, hK _ _ _ (by simp only [go_sem, Nat.reduceEqDiff, ↓reduceIte]; rfl) ?_⟩); clear hK; clear K) | (with_reducible first | refine rgn_nil (by first | trivial | kernel_rfl) ?_ | refine AWP.seq ?_ | refine tX hC hP (by kernel_rfl) ?_ | refine aX hC hM hP (by kernel_rfl) ?_ | refine AWP.skip ?_ | refine AWP.label ?_ | refine AWP.exit ?_ | refine AWP.block ?_ | refine cTa ?_ | refine cFa ?_) | simp only [qS, Nat.reduceEqDiff, ↓reduceIte]))
  (refine AWP.ret ?_; refine retOk1 (by simp only [go_sem, seval, ↓reduceIte, decide_true, decide_false]; rfl) ?_)
  rfl
set_option maxHeartbeats 1000000 in
theorem c_laws_witt9 (p m : Int) (l : List Int) (hl : l.length ≤ 1099511627776) : AFn Tryz.prog 27 [.agg [.int .i64 p, .int .i64 m, .sl false 2 (intL l)], .agg [.int .i64 p, .int .i64 m, .sl false 2 (intL l)]] (.bool true) := by
  refine AFn.of' ttOk (by decide) Tryz.func27 Tryz.ntmps27 (by rw [Tryz.results27]) (by rfl) (by rfl) (by simp) (by decide) (by simp only [go_sem, Nat.reduceAdd, ↓reduceIte]; rfl) mixed (fun C hP hM hC => ?_)
  (repeat (first | ((with_reducible refine rgn_cons rfl (fun K hK => ?_)); simp only [go_sem, seval, ↓reduceIte, decide_true, decide_false, beq_self_eq_true]; (first | refine hK _ _ _ (by simp only [go_sem, Nat.reduceEqDiff, ↓reduceIte]; rfl) ?_ | refine ⟨_, c_laws_likeInts l hl, hK _ _ _ (by simp only [go_sem, Nat.reduceEqDiff, ↓reduceIte]; rfl) ?_⟩); clear hK; clear K) | (with_reducible first | refine rgn_nil (by first | trivial | kernel_rfl) ?_ | refine AWP.seq ?_ | refine tX hC hP (by kernel_rfl) ?_ | refine aX hC hM hP (by kernel_rfl) ?_ | refine AWP.skip ?_ | refine AWP.label ?_ | refine AWP.exit ?_ | refine AWP.block ?_ | refine cTa ?_ | refine cFa ?_) | simp only [qS, Nat.reduceEqDiff, ↓reduceIte]))
  (refine AWP.ret ?_; refine retOk1 (by simp only [go_sem, seval, ↓reduceIte, decide_true, decide_false]; rfl) ?_)
  rfl
set_option maxHeartbeats 1000000 in
theorem c_laws_witt9_nil (p m : Int) : AFn Tryz.prog 27 [.agg [.int .i64 p, .int .i64 m, .nil], .agg [.int .i64 p, .int .i64 m, .nil]] (.bool true) := by
  refine AFn.of' ttOk (by decide) Tryz.func27 Tryz.ntmps27 (by rw [Tryz.results27]) (by rfl) (by rfl) (by simp) (by decide) (by simp only [go_sem, Nat.reduceAdd, ↓reduceIte]; rfl) mixed (fun C hP hM hC => ?_)
  (repeat (first | ((with_reducible refine rgn_cons rfl (fun K hK => ?_)); simp only [go_sem, seval, ↓reduceIte, decide_true, decide_false, beq_self_eq_true]; (first | refine hK _ _ _ (by simp only [go_sem, Nat.reduceEqDiff, ↓reduceIte]; rfl) ?_ | refine ⟨_, c_laws_likeInts_nil, hK _ _ _ (by simp only [go_sem, Nat.reduceEqDiff, ↓reduceIte]; rfl) ?_⟩); clear hK; clear K) | (with_reducible first | refine rgn_nil (by first | trivial | kernel_rfl) ?_ | refine AWP.seq ?_ | refine tX hC hP (by kernel_rfl) ?_ | refine aX hC hM hP (by kernel_rfl) ?_ | refine AWP.skip ?_ | refine AWP.label ?_ | refine AWP.exit ?_ | refine AWP.block ?_ | refine cTa ?_ | refine cFa ?_) | simp only [qS, Nat.reduceEqDiff, ↓reduceIte]))
  (refine AWP.ret ?_; refine retOk1 (by simp only [go_sem, seval, ↓reduceIte, decide_true, decide_false]; rfl) ?_)
  rfl
theorem ser_of {m : Int} {l : List Int} {d : Nat} (h1 : 2 ≤ m) (h2 : m ≤ 10000) (h3 : l.length = d + 1) (h4 : 1 ≤ d) (h5 : d ≤ 10) (h6 : ∀ x ∈ l, 0 ≤ x ∧ x < m) : isSer m l = true := by
  simp only [isSer, Bool.and_eq_true, decide_eq_true_eq, List.all_eq_true, isNum]
  exact ⟨⟨⟨h1, h2⟩, by omega, by omega⟩, fun x hx => by have := h6 x hx; omega⟩
theorem wt_of {p m : Int} {l : List Int} (h1 : typB p = true) (h2 : 2 ≤ m) (h3 : m ≤ 10000) (h4 : 1 ≤ l.length) (h5 : l.length ≤ 4) (h6 : ∀ x ∈ l, 0 ≤ x ∧ x < m) : isWt p m l = true := by
  simp only [isWt, Bool.and_eq_true, decide_eq_true_eq, List.all_eq_true, isNum]
  exact ⟨⟨⟨h1, h2, h3⟩, by omega, by omega⟩, fun x hx => by have := h6 x hx; omega⟩
theorem exp_code {p m d : Int} {l : List Int} (h1 : isWt p m l = true) (h2 : 1 ≤ d ∧ d ≤ 10) (h3 : powB p.toNat m.toNat = true) : expC p m d l = 0 := by
  rw [expC, if_pos h1, if_pos h2, pwC, if_pos h3]
theorem ah_bot {p n : Int} (h : typB p = true ∧ 0 ≤ n ∧ n ≤ 10) : (ahcB p n).tmod p ≠ 0 := by
  have hp := typB_of h.1
  have hpb := hp.1.b
  rw [ahcB, if_pos h]
  have hg := (ah_gcd (k := n.toNat) hp.1 (by omega)).1
  have hc : (((ahTB p.toNat n.toNat).2.getD n.toNat 0 : Nat) : Int) % p = ((bN p.toNat n.toNat % p.toNat : Nat) : Int) := by
    rw [Int.natCast_emod, hp.2]; rfl
  rw [tm _ _ (by omega), hc]
  intro e
  have e2 : bN p.toNat n.toNat % p.toNat = 0 := by omega
  have h1 : p.toNat ∣ 1 := by rw [← hg]; exact Nat.dvd_gcd (Nat.dvd_refl _) (Nat.dvd_of_mod_eq_zero e2)
  have := Nat.le_of_dvd (by omega) h1
  omega
end Go.Proofs.YtdnaecmcbkfpaaaGreat
