/-
  Points: the codes; laws that are cut.
-/
import Derived.Test.YtfnfdjomkohfjaaQe
import Derived.Test.YtfnfdjomkohfjaaKl
import Derived.Test.YtfnfdjomkohfjaaKd
namespace Go.Proofs.Ytfnfdjomkohfjaa
open Go.RowKit
set_option linter.unusedSimpArgs false
set_option linter.unusedVariables false
set_option linter.unusedSectionVars false
set_option maxRecDepth 20000
-- Points: the codes; laws that are cut.
def spB (m : Int) (n : Nat) (x : List Int) : Bool := (decide (1 ≤ (x.length : Int)) && decide ((x.length : Int) ≤ (n : Int) - 1)) && x.all (isNum m)
def ptB (m : Int) (n k : Nat) (x : List Int) : Bool := spB m n x && decide (x.length = k)
noncomputable def ptC (m : Int) (ll L : List (List Int)) : Int := if lawB m ll = true then (if (∀ i, i < L.length → ptB m ll.length (L.getD 0 []).length (L.getD i []) = true) then 0 else 2) else 1
theorem ptC_yes {m : Int} {ll L : List (List Int)} (h1 : lawB m ll = true) (h : ∀ i, i < L.length → ptB m ll.length (L.getD 0 []).length (L.getD i []) = true) : ptC m ll L = 0 := by rw [ptC, if_pos h1, if_pos h]
theorem ptC_no {m : Int} {ll L : List (List Int)} (h1 : lawB m ll = true) {i : Nat} (hi : i < L.length) (h : ptB m ll.length (L.getD 0 []).length (L.getD i []) = false) : ptC m ll L = 2 := by
  rw [ptC, if_pos h1, if_neg (fun e => by rw [e i hi] at h; cases h)]
set_option maxHeartbeats 1000000 in
theorem c_spec_l03Degree (m : Int) (ll : List (List Int)) (hl : ll.length ≤ 1099511627776) : AFn Try.prog 74 [.agg [.int .i64 m, .sl false 25 (rowsF ll)]] (.int .i64 ((ll.length : Int) - 1)) := by
  refine AFn.of' ttOk (by decide) Try.func74 Try.ntmps74 (by rw [Try.results74]) (by rfl) (by rfl) (by simp) (by decide) (by simp only [go_sem, Nat.reduceAdd, ↓reduceIte]; rfl) mixed (fun C hP hM hC => ?_)
  (repeat (first | ((with_reducible refine rgn_cons rfl (fun K hK => ?_)); simp only [go_sem, seval, ↓reduceIte, decide_true, decide_false, rowsF_length, wid ((ll.length : Int) - 1) (by omega) (by omega)]; (refine hK _ _ _ (by simp only [go_sem, Nat.reduceEqDiff, ↓reduceIte]; rfl) ?_); clear hK; clear K) | (with_reducible first | refine rgn_nil (by first | trivial | kernel_rfl) ?_ | refine AWP.seq ?_ | refine tX hC hP (by kernel_rfl) ?_ | refine aX hC hM hP (by kernel_rfl) ?_ | refine AWP.skip ?_ | refine AWP.label ?_ | refine AWP.exit ?_ | refine AWP.block ?_ | refine cTa ?_ | refine cFa ?_) | simp only [qS, Nat.reduceEqDiff, ↓reduceIte]))
  (refine AWP.ret ?_; refine retOk1 (by simp only [go_sem, seval, ↓reduceIte, decide_true, decide_false]; rfl) ?_)
  rfl
set_option maxHeartbeats 1000000 in
theorem c_spec_l16Point (m : Int) (ll : List (List Int)) (x : List Int) (hl : ll.length ≤ 1099511627776) (hx : x.length ≤ 1099511627776) (h1 : -9000000000000000000 ≤ m) (h2 : m ≤ 9000000000000000000) : AFn Try.prog 58 [.agg [.int .i64 m, .sl false 25 (rowsF ll)], .sl false 2 (intL x)] (.bool (spB m ll.length x)) := by
  refine AFn.of' ttOk (by decide) Try.func58 Try.ntmps58 (by rw [Try.results58]) (by rfl) (by rfl) (by simp) (by decide) (by simp only [go_sem, Nat.reduceAdd, ↓reduceIte]; rfl) mixed (fun C hP hM hC => ?_)
  cases h : (decide (1 ≤ (x.length : Int)) && decide ((x.length : Int) ≤ (ll.length : Int) - 1)) with
  | false =>
    (repeat (first | ((with_reducible refine rgn_cons rfl (fun K hK => ?_)); simp only [go_sem, seval, ↓reduceIte, decide_true, decide_false, h]; (first | refine hK _ _ _ (by simp only [go_sem, Nat.reduceEqDiff, ↓reduceIte]; rfl) ?_ | refine ⟨_, c_spec_l03Degree m ll hl, hK _ _ _ (by simp only [go_sem, Nat.reduceEqDiff, ↓reduceIte]; rfl) ?_⟩ | refine ⟨_, c_spec_l01In _ _ _, hK _ _ _ (by simp only [go_sem, Nat.reduceEqDiff, ↓reduceIte]; rfl) ?_⟩); clear hK; clear K) | (with_reducible first | refine rgn_nil (by first | trivial | kernel_rfl) ?_ | refine AWP.seq ?_ | refine tX hC hP (by kernel_rfl) ?_ | refine aX hC hM hP (by kernel_rfl) ?_ | refine AWP.skip ?_ | refine AWP.label ?_ | refine AWP.exit ?_ | refine AWP.block ?_ | refine cTa ?_ | refine cFa ?_) | simp only [qS, Nat.reduceEqDiff, ↓reduceIte]))
    (refine AWP.ret ?_; refine retOk1 (by simp only [go_sem, seval, ↓reduceIte, decide_true, decide_false]; rfl) ?_)
    simp only [spB, h]; rfl
  | true =>
    (repeat (first | ((with_reducible refine rgn_cons rfl (fun K hK => ?_)); simp only [go_sem, seval, ↓reduceIte, decide_true, decide_false, h]; (first | refine hK _ _ _ (by simp only [go_sem, Nat.reduceEqDiff, ↓reduceIte]; rfl) ?_ | refine ⟨_, c_spec_l03Degree m ll hl, hK _ _ _ (by simp only [go_sem, Nat.reduceEqDiff, ↓reduceIte]; rfl) ?_⟩ | refine ⟨_, c_spec_l01In _ _ _, hK _ _ _ (by simp only [go_sem, Nat.reduceEqDiff, ↓reduceIte]; rfl) ?_⟩ | refine ⟨_, c_spec_l01Numbers m x hx h1 h2, hK _ _ _ (by simp only [go_sem, Nat.reduceEqDiff, ↓reduceIte]; rfl) ?_⟩); clear hK; clear K) | (with_reducible first | refine rgn_nil (by first | trivial | kernel_rfl) ?_ | refine AWP.seq ?_ | refine tX hC hP (by kernel_rfl) ?_ | refine aX hC hM hP (by kernel_rfl) ?_ | refine AWP.skip ?_ | refine AWP.label ?_ | refine AWP.exit ?_ | refine AWP.block ?_ | refine cTa ?_ | refine cFa ?_) | simp only [qS, Nat.reduceEqDiff, ↓reduceIte]))
    (refine AWP.ret ?_; refine retOk1 (by simp only [go_sem, seval, ↓reduceIte, decide_true, decide_false]; rfl) ?_)
    simp only [spB, h]; rfl
set_option maxHeartbeats 1000000 in
theorem c_spec_l16Code (m : Int) (ll L : List (List Int)) (hs : Sm ll) (hL : L.length ≤ 1000) (hx : ∀ i, (L.getD i []).length ≤ 1000000000) : AFn Try.prog 27 [.agg [.int .i64 m, .sl false 25 (rowsF ll)], .sl false 25 (rowsF L)] (.int .i64 (ptC m ll L)) := by
  refine AFn.of' ttOk (by decide) Try.func27 Try.ntmps27 (by rw [Try.results27]) (by rfl) (by rfl) (by simp) (by decide) (by simp only [go_sem, Nat.reduceAdd, ↓reduceIte]; rfl) mixed (fun C hP hM hC => ?_)
  have hA := c_spec_l04Is m ll hs
  cases hb : lawB m ll with
  | false =>
    (repeat (first | ((with_reducible refine rgn_cons rfl (fun K hK => ?_)); simp only [go_sem, seval, ↓reduceIte, decide_true, decide_false, hb]; (first | refine hK _ _ _ (by simp only [go_sem, Nat.reduceEqDiff, ↓reduceIte]; rfl) ?_ | refine ⟨_, hA, hK _ _ _ (by simp only [go_sem, Nat.reduceEqDiff, ↓reduceIte]; rfl) ?_⟩); clear hK; clear K) | (with_reducible first | refine rgn_nil (by first | trivial | kernel_rfl) ?_ | refine AWP.seq ?_ | refine tX hC hP (by kernel_rfl) ?_ | refine aX hC hM hP (by kernel_rfl) ?_ | refine AWP.skip ?_ | refine AWP.label ?_ | refine AWP.exit ?_ | refine AWP.block ?_ | refine cTa ?_ | refine cFa ?_) | simp only [qS, Nat.reduceEqDiff, ↓reduceIte]))
    (refine AWP.ret ?_; refine retOk1 (by simp only [go_sem, seval, ↓reduceIte, decide_true, decide_false]; rfl) ?_)
    simp [ptC, hb]
  | true =>
    have hp := isPl_of (lawB_of hb).1
    (repeat (first | ((with_reducible refine rgn_cons rfl (fun K hK => ?_)); simp only [go_sem, seval, ↓reduceIte, decide_true, decide_false, hb]; (first | refine hK _ _ _ (by simp only [go_sem, Nat.reduceEqDiff, ↓reduceIte]; rfl) ?_ | refine ⟨_, hA, hK _ _ _ (by simp only [go_sem, Nat.reduceEqDiff, ↓reduceIte]; rfl) ?_⟩); clear hK; clear K) | (with_reducible first | refine rgn_nil (by first | trivial | kernel_rfl) ?_ | refine AWP.seq ?_ | refine tX hC hP (by kernel_rfl) ?_ | refine aX hC hM hP (by kernel_rfl) ?_ | refine AWP.skip ?_ | refine AWP.label ?_ | refine AWP.exit ?_ | refine AWP.block ?_ | refine cTa ?_ | refine cFa ?_) | simp only [qS, Nat.reduceEqDiff, ↓reduceIte]))
    refine AWP.loop (fun i : Nat => [(5, ⟨0, .val (.int .i64 i)⟩), (1, ⟨0, .val (.sl false 25 (rowsF L))⟩), (2, ⟨1, .own (.box 29 (.agg [.int .i64 m, .sl false 25 (rowsF ll)]))⟩)]) (fun i => i ≤ L.length ∧ ∀ j, j < i → ptB m ll.length (L.getD 0 []).length (L.getD j []) = true) (fun i => L.length - i) 0 ⟨Nat.zero_le _, fun j hj => by omega⟩ (fun i => rfl) ?_ (fun i hi => ?_)
    · simp [Sub, lk]
    · by_cases hlt : i < L.length
      · have h0 : 0 < L.length := by omega
        have hP1 := c_spec_l16Point m ll (L.getD i []) (by omega) (by have := hx i; omega) (by omega) (by omega)
        cases hq : spB m ll.length (L.getD i []) with
        | false =>
          (repeat (first | ((with_reducible refine rgn_cons rfl (fun K hK => ?_)); simp only [go_sem, seval, ↓reduceIte, decide_true, decide_false, hq, rowsF_length, show (i : Int) < (L.length : Int) by omega, decide_true, rowsF_getD L i hlt, Int.toNat_natCast, Int.natCast_nonneg]; (first | refine hK _ _ _ (by simp only [go_sem, Nat.reduceEqDiff, ↓reduceIte]; rfl) ?_ | refine ⟨_, hP1, hK _ _ _ (by simp only [go_sem, Nat.reduceEqDiff, ↓reduceIte]; rfl) ?_⟩); clear hK; clear K) | (with_reducible first | refine rgn_nil (by first | trivial | kernel_rfl) ?_ | refine AWP.seq ?_ | refine tX hC hP (by kernel_rfl) ?_ | refine aX hC hM hP (by kernel_rfl) ?_ | refine AWP.skip ?_ | refine AWP.label ?_ | refine AWP.exit ?_ | refine AWP.block ?_ | refine cTa ?_ | refine cFa ?_) | simp only [qS, Nat.reduceEqDiff, ↓reduceIte]))
          (refine AWP.ret ?_; refine retOk1 (by simp only [go_sem, seval, ↓reduceIte, decide_true, decide_false]; rfl) ?_)
          rw [ptC_no hb hlt (by simp only [ptB, hq]; rfl)]
        | true =>
          by_cases hk : (L.getD i []).length = (L.getD 0 []).length
          · (repeat (first | ((with_reducible refine rgn_cons rfl (fun K hK => ?_)); simp only [go_sem, seval, ↓reduceIte, decide_true, decide_false, hq, rowsF_length, show (i : Int) < (L.length : Int) by omega, show (0 : Int) < (L.length : Int) by omega, decide_true, rowsF_getD L i hlt, rowsF_getD L 0 h0, Int.toNat_natCast, Int.natCast_nonneg, Int.le_refl, Int.toNat_zero, show (((L.getD i []).length : Int) != ((L.getD 0 []).length : Int)) = false by rw [hk]; simp, wid ((i : Int) + 1) (by omega) (by omega)]; (first | refine hK _ _ _ (by simp only [go_sem, Nat.reduceEqDiff, ↓reduceIte]; rfl) ?_ | refine ⟨_, hP1, hK _ _ _ (by simp only [go_sem, Nat.reduceEqDiff, ↓reduceIte]; rfl) ?_⟩); clear hK; clear K) | (with_reducible first | refine rgn_nil (by first | trivial | kernel_rfl) ?_ | refine AWP.seq ?_ | refine tX hC hP (by kernel_rfl) ?_ | refine aX hC hM hP (by kernel_rfl) ?_ | refine AWP.skip ?_ | refine AWP.label ?_ | refine AWP.exit ?_ | refine AWP.block ?_ | refine cTa ?_ | refine cFa ?_) | simp only [qS, Nat.reduceEqDiff, ↓reduceIte]))
            refine ⟨i + 1, ⟨hlt, fun j hj => ?_⟩, by omega, by simp [Sub, lk]⟩
            by_cases e : j = i
            · rw [e, ptB, hq, decide_eq_true hk]; rfl
            · exact hi.2 j (by omega)
          · (repeat (first | ((with_reducible refine rgn_cons rfl (fun K hK => ?_)); simp only [go_sem, seval, ↓reduceIte, decide_true, decide_false, hq, rowsF_length, show (i : Int) < (L.length : Int) by omega, show (0 : Int) < (L.length : Int) by omega, decide_true, rowsF_getD L i hlt, rowsF_getD L 0 h0, Int.toNat_natCast, Int.natCast_nonneg, Int.le_refl, Int.toNat_zero, show (((L.getD i []).length : Int) != ((L.getD 0 []).length : Int)) = true by rw [bne_iff_ne]; omega]; (first | refine hK _ _ _ (by simp only [go_sem, Nat.reduceEqDiff, ↓reduceIte]; rfl) ?_ | refine ⟨_, hP1, hK _ _ _ (by simp only [go_sem, Nat.reduceEqDiff, ↓reduceIte]; rfl) ?_⟩); clear hK; clear K) | (with_reducible first | refine rgn_nil (by first | trivial | kernel_rfl) ?_ | refine AWP.seq ?_ | refine tX hC hP (by kernel_rfl) ?_ | refine aX hC hM hP (by kernel_rfl) ?_ | refine AWP.skip ?_ | refine AWP.label ?_ | refine AWP.exit ?_ | refine AWP.block ?_ | refine cTa ?_ | refine cFa ?_) | simp only [qS, Nat.reduceEqDiff, ↓reduceIte]))
            (refine AWP.ret ?_; refine retOk1 (by simp only [go_sem, seval, ↓reduceIte, decide_true, decide_false]; rfl) ?_)
            rw [ptC_no hb hlt (by rw [ptB, decide_eq_false hk, Bool.and_false])]
      · (repeat (first | ((with_reducible refine rgn_cons rfl (fun K hK => ?_)); simp only [go_sem, seval, ↓reduceIte, decide_true, decide_false, rowsF_length, show ¬ (i : Int) < (L.length : Int) by omega, decide_false]; (refine hK _ _ _ (by simp only [go_sem, Nat.reduceEqDiff, ↓reduceIte]; rfl) ?_); clear hK; clear K) | (with_reducible first | refine rgn_nil (by first | trivial | kernel_rfl) ?_ | refine AWP.seq ?_ | refine tX hC hP (by kernel_rfl) ?_ | refine aX hC hM hP (by kernel_rfl) ?_ | refine AWP.skip ?_ | refine AWP.label ?_ | refine AWP.exit ?_ | refine AWP.block ?_ | refine cTa ?_ | refine cFa ?_) | simp only [qS, Nat.reduceEqDiff, ↓reduceIte]))
        (refine AWP.ret ?_; refine retOk1 (by simp only [go_sem, seval, ↓reduceIte, decide_true, decide_false]; rfl) ?_)
        rw [ptC_yes hb (fun j hj => hi.2 j (by omega))]
set_option maxHeartbeats 1000000 in
theorem c_impl_pointed_1 (c m : Int) (ll : List (List Int)) (h1 : -9000000000000000000 ≤ m) (h2 : m ≤ 9000000000000000000) : AFn Try.prog 64 [.int .i64 c, .fptr (.agg [.int .i64 m, .sl false 25 (rowsF ll)])] (.bool (isNum m c)) := by
  refine AFn.of' ttOk (by decide) Try.func64 Try.ntmps64 (by rw [Try.results64]) (by rfl) (by rfl) (by simp) (by decide) (by simp only [go_sem, Nat.reduceAdd, ↓reduceIte]; rfl) mixed (fun C hP hM hC => ?_)
  (repeat (first | ((with_reducible refine rgn_cons rfl (fun K hK => ?_)); simp only [go_sem, seval, ↓reduceIte, decide_true, decide_false]; (first | refine hK _ _ _ (by simp only [go_sem, Nat.reduceEqDiff, ↓reduceIte]; rfl) ?_ | refine ⟨_, c_impl_isNumber _ _ h1 h2, hK _ _ _ (by simp only [go_sem, Nat.reduceEqDiff, ↓reduceIte]; rfl) ?_⟩); clear hK; clear K) | (with_reducible first | refine rgn_nil (by first | trivial | kernel_rfl) ?_ | refine AWP.seq ?_ | refine tX hC hP (by kernel_rfl) ?_ | refine aX hC hM hP (by kernel_rfl) ?_ | refine AWP.skip ?_ | refine AWP.label ?_ | refine AWP.exit ?_ | refine AWP.block ?_ | refine cTa ?_ | refine cFa ?_) | simp only [qS, Nat.reduceEqDiff, ↓reduceIte]))
  (refine AWP.ret ?_; refine retOk1 (by simp only [go_sem, seval, ↓reduceIte, decide_true, decide_false]; rfl) ?_)
  rfl
set_option maxHeartbeats 1000000 in
theorem c_impl_pointed (m : Int) (ll L : List (List Int)) (hs : Sm ll) (hL : L.length ≤ 1000) (h0 : 0 < L.length) (hx : ∀ i, (L.getD i []).length ≤ 1000000000) : AFn Try.prog 32 [.agg [.int .i64 m, .sl false 25 (rowsF ll)], .int .i64 ((L.getD 0 []).length), .sl false 25 (rowsF L)] (.int .i64 (ptC m ll L)) := by
  refine AFn.of' ttOk (by decide) Try.func32 Try.ntmps32 (by rw [Try.results32]) (by rfl) (by rfl) (by simp) (by decide) (by simp only [go_sem, Nat.reduceAdd, ↓reduceIte]; rfl) mixed (fun C hP hM hC => ?_)
  have hA := c_impl_IsLaw m ll hs
  cases hb : lawB m ll with
  | false =>
    (repeat (first | ((with_reducible refine rgn_cons rfl (fun K hK => ?_)); simp only [go_sem, seval, ↓reduceIte, decide_true, decide_false, hb]; (first | refine hK _ _ _ (by simp only [go_sem, Nat.reduceEqDiff, ↓reduceIte]; rfl) ?_ | refine ⟨_, hA, hK _ _ _ (by simp only [go_sem, Nat.reduceEqDiff, ↓reduceIte]; rfl) ?_⟩); clear hK; clear K) | (with_reducible first | refine rgn_nil (by first | trivial | kernel_rfl) ?_ | refine AWP.seq ?_ | refine tX hC hP (by kernel_rfl) ?_ | refine aX hC hM hP (by kernel_rfl) ?_ | refine AWP.skip ?_ | refine AWP.label ?_ | refine AWP.exit ?_ | refine AWP.block ?_ | refine cTa ?_ | refine cFa ?_) | simp only [qS, Nat.reduceEqDiff, ↓reduceIte]))
    (refine AWP.ret ?_; refine retOk1 (by simp only [go_sem, seval, ↓reduceIte, decide_true, decide_false]; rfl) ?_)
    simp [ptC, hb]
  | true =>
    have hp := isPl_of (lawB_of hb).1
    have hD := c_impl_Plane_degree m ll (by omega)
    generalize hk : (L.getD 0 []).length = k at *
    cases hr : (decide (1 ≤ (k : Int)) && decide ((k : Int) ≤ (ll.length : Int) - 1)) with
    | false =>
      (repeat (first | ((with_reducible refine rgn_cons rfl (fun K hK => ?_)); simp only [go_sem, seval, ↓reduceIte, decide_true, decide_false, hb, hr]; (first | refine hK _ _ _ (by simp only [go_sem, Nat.reduceEqDiff, ↓reduceIte]; rfl) ?_ | refine ⟨_, hA, hK _ _ _ (by simp only [go_sem, Nat.reduceEqDiff, ↓reduceIte]; rfl) ?_⟩ | refine ⟨_, hD, hK _ _ _ (by simp only [go_sem, Nat.reduceEqDiff, ↓reduceIte]; rfl) ?_⟩ | refine ⟨_, c_impl_in _ _ _, hK _ _ _ (by simp only [go_sem, Nat.reduceEqDiff, ↓reduceIte]; rfl) ?_⟩); clear hK; clear K) | (with_reducible first | refine rgn_nil (by first | trivial | kernel_rfl) ?_ | refine AWP.seq ?_ | refine tX hC hP (by kernel_rfl) ?_ | refine aX hC hM hP (by kernel_rfl) ?_ | refine AWP.skip ?_ | refine AWP.label ?_ | refine AWP.exit ?_ | refine AWP.block ?_ | refine cTa ?_ | refine cFa ?_) | simp only [qS, Nat.reduceEqDiff, ↓reduceIte]))
      (refine AWP.ret ?_; refine retOk1 (by simp only [go_sem, seval, ↓reduceIte, decide_true, decide_false]; rfl) ?_)
      rw [ptC_no hb h0 (by unfold ptB spB; rw [hk, hr]; rfl)]
    | true =>
      (repeat (first | ((with_reducible refine rgn_cons rfl (fun K hK => ?_)); simp only [go_sem, seval, ↓reduceIte, decide_true, decide_false, hb, hr, rowsF_length]; (first | refine hK _ _ _ (by simp only [go_sem, Nat.reduceEqDiff, ↓reduceIte]; rfl) ?_ | refine ⟨_, hA, hK _ _ _ (by simp only [go_sem, Nat.reduceEqDiff, ↓reduceIte]; rfl) ?_⟩ | refine ⟨_, hD, hK _ _ _ (by simp only [go_sem, Nat.reduceEqDiff, ↓reduceIte]; rfl) ?_⟩ | refine ⟨_, c_impl_in _ _ _, hK _ _ _ (by simp only [go_sem, Nat.reduceEqDiff, ↓reduceIte]; rfl) ?_⟩); clear hK; clear K) | (with_reducible first | refine rgn_nil (by first | trivial | kernel_rfl) ?_ | refine AWP.seq ?_ | refine tX hC hP (by kernel_rfl) ?_ | refine aX hC hM hP (by kernel_rfl) ?_ | refine AWP.skip ?_ | refine AWP.label ?_ | refine AWP.exit ?_ | refine AWP.block ?_ | refine cTa ?_ | refine cFa ?_) | simp only [qS, Nat.reduceEqDiff, ↓reduceIte]))
      refine AWP.loop (fun i : Nat => [(21, ⟨0, .val (.int .i64 i)⟩), (20, ⟨0, .val (.int .i64 L.length)⟩), (19, ⟨0, .val (.sl false 25 (rowsF L))⟩), (1, ⟨0, .val (.int .i64 k)⟩), (3, ⟨1, .own (.box 29 (.agg [.int .i64 m, .sl false 25 (rowsF ll)]))⟩)]) (fun i => i ≤ L.length ∧ ∀ j, j < i → ptB m ll.length k (L.getD j []) = true) (fun i => L.length - i) 0 ⟨Nat.zero_le _, fun j hj => by omega⟩ (fun i => rfl) ?_ (fun i hi => ?_)
      · simp [Sub, lk]
      · by_cases hlt : i < L.length
        · have hZ := c_impl_all_int64 (L.getD i []) (by have := hx i; omega) 64 [.fptr (.agg [.int .i64 m, .sl false 25 (rowsF ll)])] (by decide) (by rfl) (by simp [T.pureL, T.pure, rowsF_pure]) (fun c => rfl) (isNum m) (fun x hx => c_impl_pointed_1 x m ll (by omega) (by omega))
          by_cases hk2 : (L.getD i []).length = k
          · cases hq : (L.getD i []).all (isNum m) with
            | false =>
              (repeat (first | ((with_reducible refine rgn_cons rfl (fun K hK => ?_)); simp only [go_sem, seval, ↓reduceIte, decide_true, decide_false, hq, rowsF_length, show (i : Int) < (L.length : Int) by omega, decide_true, rowsF_getD L i hlt, Int.toNat_natCast, Int.natCast_nonneg, show (((L.getD i []).length : Int) != (k : Int)) = false by rw [hk2]; simp]; (first | refine hK _ _ _ (by simp only [go_sem, Nat.reduceEqDiff, ↓reduceIte]; rfl) ?_ | refine ⟨_, hZ, hK _ _ _ (by simp only [go_sem, Nat.reduceEqDiff, ↓reduceIte]; rfl) ?_⟩); clear hK; clear K) | (with_reducible first | refine rgn_nil (by first | trivial | kernel_rfl) ?_ | refine AWP.seq ?_ | refine tX hC hP (by kernel_rfl) ?_ | refine aX hC hM hP (by kernel_rfl) ?_ | refine AWP.skip ?_ | refine AWP.label ?_ | refine AWP.exit ?_ | refine AWP.block ?_ | refine cTa ?_ | refine cFa ?_) | simp only [qS, Nat.reduceEqDiff, ↓reduceIte]))
              (refine AWP.ret ?_; refine retOk1 (by simp only [go_sem, seval, ↓reduceIte, decide_true, decide_false]; rfl) ?_)
              rw [ptC_no hb hlt (by unfold ptB spB; rw [hq, Bool.and_false]; rfl)]
            | true =>
              (repeat (first | ((with_reducible refine rgn_cons rfl (fun K hK => ?_)); simp only [go_sem, seval, ↓reduceIte, decide_true, decide_false, hq, rowsF_length, show (i : Int) < (L.length : Int) by omega, decide_true, rowsF_getD L i hlt, Int.toNat_natCast, Int.natCast_nonneg, show (((L.getD i []).length : Int) != (k : Int)) = false by rw [hk2]; simp, wid ((i : Int) + 1) (by omega) (by omega)]; (first | refine hK _ _ _ (by simp only [go_sem, Nat.reduceEqDiff, ↓reduceIte]; rfl) ?_ | refine ⟨_, hZ, hK _ _ _ (by simp only [go_sem, Nat.reduceEqDiff, ↓reduceIte]; rfl) ?_⟩); clear hK; clear K) | (with_reducible first | refine rgn_nil (by first | trivial | kernel_rfl) ?_ | refine AWP.seq ?_ | refine tX hC hP (by kernel_rfl) ?_ | refine aX hC hM hP (by kernel_rfl) ?_ | refine AWP.skip ?_ | refine AWP.label ?_ | refine AWP.exit ?_ | refine AWP.block ?_ | refine cTa ?_ | refine cFa ?_) | simp only [qS, Nat.reduceEqDiff, ↓reduceIte]))
              refine ⟨i + 1, ⟨hlt, fun j hj => ?_⟩, by omega, by simp [Sub, lk]⟩
              by_cases e : j = i
              · rw [e]; unfold ptB spB; rw [hk2, hr, hq, decide_eq_true rfl]; rfl
              · exact hi.2 j (by omega)
          · (repeat (first | ((with_reducible refine rgn_cons rfl (fun K hK => ?_)); simp only [go_sem, seval, ↓reduceIte, decide_true, decide_false, rowsF_length, show (i : Int) < (L.length : Int) by omega, decide_true, rowsF_getD L i hlt, Int.toNat_natCast, Int.natCast_nonneg, show (((L.getD i []).length : Int) != (k : Int)) = true by rw [bne_iff_ne]; omega]; (first | refine hK _ _ _ (by simp only [go_sem, Nat.reduceEqDiff, ↓reduceIte]; rfl) ?_ | refine ⟨_, hZ, hK _ _ _ (by simp only [go_sem, Nat.reduceEqDiff, ↓reduceIte]; rfl) ?_⟩); clear hK; clear K) | (with_reducible first | refine rgn_nil (by first | trivial | kernel_rfl) ?_ | refine AWP.seq ?_ | refine tX hC hP (by kernel_rfl) ?_ | refine aX hC hM hP (by kernel_rfl) ?_ | refine AWP.skip ?_ | refine AWP.label ?_ | refine AWP.exit ?_ | refine AWP.block ?_ | refine cTa ?_ | refine cFa ?_) | simp only [qS, Nat.reduceEqDiff, ↓reduceIte]))
            (refine AWP.ret ?_; refine retOk1 (by simp only [go_sem, seval, ↓reduceIte, decide_true, decide_false]; rfl) ?_)
            rw [ptC_no hb hlt (by rw [ptB, hk, decide_eq_false hk2, Bool.and_false])]
        · (repeat (first | ((with_reducible refine rgn_cons rfl (fun K hK => ?_)); simp only [go_sem, seval, ↓reduceIte, decide_true, decide_false, rowsF_length, show ¬ (i : Int) < (L.length : Int) by omega, decide_false]; (refine hK _ _ _ (by simp only [go_sem, Nat.reduceEqDiff, ↓reduceIte]; rfl) ?_); clear hK; clear K) | (with_reducible first | refine rgn_nil (by first | trivial | kernel_rfl) ?_ | refine AWP.seq ?_ | refine tX hC hP (by kernel_rfl) ?_ | refine aX hC hM hP (by kernel_rfl) ?_ | refine AWP.skip ?_ | refine AWP.label ?_ | refine AWP.exit ?_ | refine AWP.block ?_ | refine cTa ?_ | refine cFa ?_) | simp only [qS, Nat.reduceEqDiff, ↓reduceIte]))
          (refine AWP.ret ?_; refine retOk1 (by simp only [go_sem, seval, ↓reduceIte, decide_true, decide_false]; rfl) ?_)
          rw [ptC_yes hb (fun j hj => by rw [hk]; exact hi.2 j (by omega))]
theorem pt_row {m : Int} {n k i : Nat} {ll : List (List Int)} (hl : Pl m n ll) (hi : i + k ≤ n) : (ll.getD i []).take k = tab k (pc ll i) := by
  rcases Nat.eq_zero_or_pos k with e | e
  · subst e; rfl
  · have hr := hl.row i (by omega)
    exact eq_tab (by rw [List.length_take]; omega) (fun j hj => by
      simp only [List.getD_eq_getElem?_getD, List.getElem?_take_of_lt hj]; rfl)
set_option maxHeartbeats 1000000 in
theorem c_spec_l01Own_pt (l : List Int) (hl : l.length ≤ 1000000000) : AFn Try.prog 28 [.sl false 2 (intL l)] (.sl true 2 (intL l)) := by
  refine AFn.of' ttOk (by decide) Try.func28 Try.ntmps28 (by rw [Try.results28]) (by rfl) (by rfl) (by simp) (by decide) (by simp only [go_sem, Nat.reduceAdd, ↓reduceIte]; rfl) mixed (fun C hP hM hC => ?_)
  (repeat (first | ((with_reducible refine rgn_cons rfl (fun K hK => ?_)); simp only [go_sem, seval, ↓reduceIte, decide_true, decide_false, intL_plain, Nat.zero_add, List.length_nil, show l.length ≤ 1099511627776 by omega, show l.length * 8 ≤ 140737488355328 by omega]; (refine hK _ _ _ (by simp only [go_sem, Nat.reduceEqDiff, ↓reduceIte]; rfl) ?_); clear hK; clear K) | (with_reducible first | refine rgn_nil (by first | trivial | kernel_rfl) ?_ | refine AWP.seq ?_ | refine tX hC hP (by kernel_rfl) ?_ | refine aX hC hM hP (by kernel_rfl) ?_ | refine AWP.skip ?_ | refine AWP.label ?_ | refine AWP.exit ?_ | refine AWP.block ?_ | refine cTa ?_ | refine cFa ?_) | simp only [qS, Nat.reduceEqDiff, ↓reduceIte]))
  (refine AWP.ret ?_; refine retOk1 (by simp only [go_sem, seval, ↓reduceIte, decide_true, decide_false]; rfl) ?_)
  rfl
set_option maxHeartbeats 1000000 in
theorem c_impl_copyOf_int64_pt (l : List Int) (hl : l.length ≤ 1000000000) : AFn Try.prog 41 [.sl false 2 (intL l)] (.sl true 2 (intL l)) := by
  refine AFn.of' ttOk (by decide) Try.func41 Try.ntmps41 (by rw [Try.results41]) (by rfl) (by rfl) (by simp) (by decide) (by simp only [go_sem, Nat.reduceAdd, ↓reduceIte]; rfl) mixed (fun C hP hM hC => ?_)
  (repeat (first | ((with_reducible refine rgn_cons rfl (fun K hK => ?_)); simp only [go_sem, seval, ↓reduceIte, decide_true, decide_false, intL_plain, Nat.zero_add, List.length_nil, show l.length ≤ 1099511627776 by omega, show l.length * 8 ≤ 140737488355328 by omega]; (refine hK _ _ _ (by simp only [go_sem, Nat.reduceEqDiff, ↓reduceIte]; rfl) ?_); clear hK; clear K) | (with_reducible first | refine rgn_nil (by first | trivial | kernel_rfl) ?_ | refine AWP.seq ?_ | refine tX hC hP (by kernel_rfl) ?_ | refine aX hC hM hP (by kernel_rfl) ?_ | refine AWP.skip ?_ | refine AWP.label ?_ | refine AWP.exit ?_ | refine AWP.block ?_ | refine cTa ?_ | refine cFa ?_) | simp only [qS, Nat.reduceEqDiff, ↓reduceIte]))
  (refine AWP.ret ?_; refine retOk1 (by simp only [go_sem, seval, ↓reduceIte, decide_true, decide_false]; rfl) ?_)
  rfl
set_option maxHeartbeats 1000000 in
theorem c_spec_l03Cut (m : Int) (ll : List (List Int)) (n k : Nat) (hl : Pl m n ll) (hk : k + 1 ≤ n) (hn : n ≤ 1000) : AFn Try.prog 61 [.sl false 25 (rowsF ll), .int .i64 k] (.sl true 25 (rowsO (tab2 (k + 1) (pc ll)))) := by
  refine AFn.of' ttOk (by decide) Try.func61 Try.ntmps61 (by rw [Try.results61]) (by rfl) (by rfl) (by simp) (by decide) (by simp only [go_sem, Nat.reduceAdd, ↓reduceIte]; rfl) mixed (fun C hP hM hC => ?_)
  (repeat (first | ((with_reducible refine rgn_cons rfl (fun K hK => ?_)); simp only [go_sem, seval, ↓reduceIte, decide_true, decide_false]; (refine hK _ _ _ (by simp only [go_sem, Nat.reduceEqDiff, ↓reduceIte]; rfl) ?_); clear hK; clear K) | (with_reducible first | refine rgn_nil (by first | trivial | kernel_rfl) ?_ | refine AWP.seq ?_ | refine tX hC hP (by kernel_rfl) ?_ | refine aX hC hM hP (by kernel_rfl) ?_ | refine AWP.skip ?_ | refine AWP.label ?_ | refine AWP.exit ?_ | refine AWP.block ?_ | refine cTa ?_ | refine cFa ?_) | simp only [qS, Nat.reduceEqDiff, ↓reduceIte]))
  refine AWP.loop (fun w : Nat × Nat => [(6, ⟨0, .val (.int .i64 w.1)⟩), (5, ⟨w.2, .own (.sl true 25 (rowsO (tabR (k + 1) w.1 (pc ll))))⟩), (0, ⟨0, .val (.sl false 25 (rowsF ll))⟩), (1, ⟨0, .val (.int .i64 k)⟩)]) (fun w => w.1 ≤ k + 1) (fun w => k + 1 - w.1) (0, 1) (Nat.zero_le _) (fun i => rfl) ?_ (fun w hw => ?_)
  · simp [Sub, lk, tabR_zero, rowsO]
  · obtain ⟨i, v⟩ := w
    simp only at hw ⊢
    by_cases hi : i ≤ k
    · have u1 : IntKind.i64.wrap ((k : Int) - (i : Int)) = ((k - i : Nat) : Int) := by rw [wid _ (by omega) (by omega)]; omega
      have u2 : IntKind.i64.wrap (((k - i : Nat) : Int) + 1) = ((k + 1 - i : Nat) : Int) := by rw [wid _ (by omega) (by omega)]; omega
      have hs := tabR_succ (k + 1) i (pc ll)
      have hr := hl.row i (by omega)
      have ht := pt_row hl (show i + (k + 1 - i) ≤ n by omega)
      have hO := c_spec_l01Own_pt (tab (k + 1 - i) (pc ll i)) (by rw [tab_length]; omega)
      (repeat (first | ((with_reducible refine rgn_cons rfl (fun K hK => ?_)); simp only [go_sem, seval, ↓reduceIte, decide_true, decide_false, show (i : Int) ≤ (k : Int) by omega, decide_true, rowsF_length, hl.len, show (i : Int) < (n : Int) by omega, rowsF_getD ll i (by rw [hl.len]; omega), Int.toNat_natCast, Int.natCast_nonneg, Int.le_refl, Int.toNat_zero, List.drop_zero, u1, u2, hr, show ((k + 1 - i : Nat) : Int) ≤ ((n - i : Nat) : Int) by omega, intL_take, ht, tabR_length, rowsO_snocT, hs, show i + 1 ≤ 1099511627776 by omega, show (i + 1) * 24 ≤ 140737488355328 by omega, wid ((i : Int) + 1) (by omega) (by omega)]; (first | refine hK _ _ _ (by simp only [go_sem, Nat.reduceEqDiff, ↓reduceIte]; rfl) ?_ | refine ⟨_, hO, hK _ _ _ (by simp only [go_sem, Nat.reduceEqDiff, ↓reduceIte]; rfl) ?_⟩); clear hK; clear K) | (with_reducible first | refine rgn_nil (by first | trivial | kernel_rfl) ?_ | refine AWP.seq ?_ | refine tX hC hP (by kernel_rfl) ?_ | refine aX hC hM hP (by kernel_rfl) ?_ | refine AWP.skip ?_ | refine AWP.label ?_ | refine AWP.exit ?_ | refine AWP.block ?_ | refine cTa ?_ | refine cFa ?_) | simp only [qS, Nat.reduceEqDiff, ↓reduceIte]))
      exact ⟨(i + 1, v + 1), by simp only; omega, by simp only; omega, by simp [Sub, lk]⟩
    · (repeat (first | ((with_reducible refine rgn_cons rfl (fun K hK => ?_)); simp only [go_sem, seval, ↓reduceIte, decide_true, decide_false, show ¬ (i : Int) ≤ (k : Int) by omega, decide_false]; (refine hK _ _ _ (by simp only [go_sem, Nat.reduceEqDiff, ↓reduceIte]; rfl) ?_); clear hK; clear K) | (with_reducible first | refine rgn_nil (by first | trivial | kernel_rfl) ?_ | refine AWP.seq ?_ | refine tX hC hP (by kernel_rfl) ?_ | refine aX hC hM hP (by kernel_rfl) ?_ | refine AWP.skip ?_ | refine AWP.label ?_ | refine AWP.exit ?_ | refine AWP.block ?_ | refine cTa ?_ | refine cFa ?_) | simp only [qS, Nat.reduceEqDiff, ↓reduceIte]))
      (refine AWP.ret ?_; refine retOk1 (by simp only [go_sem, seval, ↓reduceIte, decide_true, decide_false]; rfl) ?_)
      rw [show i = k + 1 by omega]; rfl
set_option maxHeartbeats 1000000 in
theorem c_spec_l03Make (m : Int) (ll : List (List Int)) : AFn Try.prog 60 [.int .i64 m, .sl true 25 (rowsO ll)] (.agg [.int .i64 m, .sl true 25 (rowsO ll)]) := by
  refine AFn.of' ttOk (by decide) Try.func60 Try.ntmps60 (by rw [Try.results60]) (by rfl) (by rfl) (by simp) (by decide) (by simp only [go_sem, Nat.reduceAdd, ↓reduceIte]; rfl) mixed (fun C hP hM hC => ?_)
  (repeat (first | ((with_reducible refine rgn_cons rfl (fun K hK => ?_)); simp only [go_sem, seval, ↓reduceIte, decide_true, decide_false]; (refine hK _ _ _ (by simp only [go_sem, Nat.reduceEqDiff, ↓reduceIte]; rfl) ?_); clear hK; clear K) | (with_reducible first | refine rgn_nil (by first | trivial | kernel_rfl) ?_ | refine AWP.seq ?_ | refine tX hC hP (by kernel_rfl) ?_ | refine aX hC hM hP (by kernel_rfl) ?_ | refine AWP.skip ?_ | refine AWP.label ?_ | refine AWP.exit ?_ | refine AWP.block ?_ | refine cTa ?_ | refine cFa ?_) | simp only [qS, Nat.reduceEqDiff, ↓reduceIte]))
  (refine AWP.ret ?_; refine retOk1 (by simp only [go_sem, seval, ↓reduceIte, decide_true, decide_false]; rfl) ?_)
  rfl
set_option maxHeartbeats 1000000 in
theorem c_spec_l16Cut (m : Int) (ll : List (List Int)) (n k : Nat) (hl : Pl m n ll) (hk : k + 1 ≤ n) (hn : n ≤ 1000) : AFn Try.prog 30 [.agg [.int .i64 m, .sl false 25 (rowsF ll)], .int .i64 k] (.agg [.int .i64 m, .sl true 25 (rowsO (tab2 (k + 1) (pc ll)))]) := by
  refine AFn.of' ttOk (by decide) Try.func30 Try.ntmps30 (by rw [Try.results30]) (by rfl) (by rfl) (by simp) (by decide) (by simp only [go_sem, Nat.reduceAdd, ↓reduceIte]; rfl) mixed (fun C hP hM hC => ?_)
  (repeat (first | ((with_reducible refine rgn_cons rfl (fun K hK => ?_)); simp only [go_sem, seval, ↓reduceIte, decide_true, decide_false]; (first | refine hK _ _ _ (by simp only [go_sem, Nat.reduceEqDiff, ↓reduceIte]; rfl) ?_ | refine ⟨_, c_spec_l03Cut m ll n k hl hk hn, hK _ _ _ (by simp only [go_sem, Nat.reduceEqDiff, ↓reduceIte]; rfl) ?_⟩ | refine ⟨_, c_spec_l03Make m _, hK _ _ _ (by simp only [go_sem, Nat.reduceEqDiff, ↓reduceIte]; rfl) ?_⟩); clear hK; clear K) | (with_reducible first | refine rgn_nil (by first | trivial | kernel_rfl) ?_ | refine AWP.seq ?_ | refine tX hC hP (by kernel_rfl) ?_ | refine aX hC hM hP (by kernel_rfl) ?_ | refine AWP.skip ?_ | refine AWP.label ?_ | refine AWP.exit ?_ | refine AWP.block ?_ | refine cTa ?_ | refine cFa ?_) | simp only [qS, Nat.reduceEqDiff, ↓reduceIte]))
  (refine AWP.ret ?_; refine retOk1 (by simp only [go_sem, seval, ↓reduceIte, decide_true, decide_false]; rfl) ?_)
  rfl
theorem intL_scalar (l : List Int) : (intL l).all T.scalar = true := by
  induction l with
  | nil => rfl
  | cons x l ih => simp only [intL, List.map_cons, List.all_cons, T.scalar, Bool.true_and]; exact ih
/-- The first rows of a law, cut; the others empty. -/
def cuR (k : Nat) (ll : List (List Int)) (i : Nat) : List (List Int) := tab2 (k + 1) (fun a b => if a < i then pc ll a b else 0)
end Go.Proofs.Ytfnfdjomkohfjaa
