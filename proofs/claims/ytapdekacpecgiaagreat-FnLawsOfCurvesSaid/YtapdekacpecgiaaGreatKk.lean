import Derived.Test.YtapdekacpecgiaaGreatKj
namespace Go.Proofs.YtapdekacpecgiaaGreat
open Go.RowKit
set_option linter.unusedSimpArgs false
set_option linter.unusedVariables false
set_option linter.unusedSectionVars false
set_option maxRecDepth 20000
set_option maxHeartbeats 1000000
def rowB (m : Int) (ll : List (List Int)) (i : Nat) : Bool := ((ll.getD i []).length == ll.length - i) && (ll.getD i []).all (isNum m)
def isPl (m : Int) (ll : List (List Int)) : Bool := (decide (2 ≤ m) && decide (m ≤ 10000)) && (decide (1 ≤ (ll.length : Int) - 1) && decide ((ll.length : Int) - 1 ≤ 10)) && (List.range ll.length).all (rowB m ll)
def Sm (ll : List (List Int)) : Prop := ll.length ≤ 1000000000 ∧ ∀ i, (ll.getD i []).length ≤ 1000000000
theorem Eo {m : Int} {ll : List (List Int)} (h : isPl m ll = true) : 2 ≤ m ∧ m ≤ 10000 ∧ 2 ≤ ll.length ∧ ll.length ≤ 11 ∧ Pl m ll.length ll := by
 simp only [isPl, Bool.and_eq_true, decide_eq_true_eq, List.all_eq_true, List.mem_range, rowB, beq_iff_eq, isNum] at h
 obtain ⟨⟨⟨h1, h2⟩, h3, h4⟩, h5⟩ := h
 refine ⟨h1, h2, by omega, by omega, rfl, fun i hi => (h5 i hi).1, fun i j => ?_⟩
 by_cases hi : i < ll.length
 ·have hb := Af (l := ll.getD i []) (m := m) (fun x hx => by have := (h5 i hi).2 x hx; omega) (by omega) j
  exact hb
 ·have e : ll.getD i [] = [] := by rw [List.getD_eq_getElem?_getD, List.getElem?_eq_none (by omega)]; rfl
  rw [pc, e]
  simp [at']; omega
theorem Nv {m : Int} {ll : List (List Int)} (h1 : (decide (2 ≤ m) && decide (m ≤ 10000)) = true) (h2 : (decide (1 ≤ (ll.length : Int) - 1) && decide ((ll.length : Int) - 1 ≤ 10)) = true) (h3 : ∀ i, i < ll.length → rowB m ll i = true) : isPl m ll = true := by
 rw [isPl, h1, h2]
 simp only [Bool.true_and, List.all_eq_true, List.mem_range]
 exact h3
theorem Jm {m : Int} {ll : List (List Int)} {i : Nat} (hi : i < ll.length) (h : rowB m ll i = false) : isPl m ll = false := by
 cases e : isPl m ll with
 | false => rfl
 | true =>
  simp only [isPl, Bool.and_eq_true, List.all_eq_true, List.mem_range] at e
  rw [e.2 i hi] at h
  cases h
theorem Ho (x m : Int) (ll : List (List Int)) (h1 : -9000000000000000000 ≤ m) (h2 : m ≤ 9000000000000000000) : AFn Tryz.prog 190 [.int .i64 x, .fptr (.agg [.int .i64 m, .sl false 27 (rowsF ll)])] (.bool (isNum m x)) := by
 refine fO Tryz.func190 Tryz.ntmps190 (by rw [Tryz.results190]) fun C hP hM hC => ?_
 (repeat (first | ((with_reducible refine rC rfl fun K hK => ?_); simp only [go_sem, seval, ↓reduceIte]; (first | refine hK _ _ _ ?_ | refine ⟨_, Ei _ _ h1 h2, hK _ _ _ ?_⟩); clear hK K) | (with_reducible first | refine rN ?_ | refine sQ ?_ | refine tY hC hP ?_ | refine aY hC hM hP ?_ | refine kQ ?_ | refine lQ ?_ | refine eQ ?_ | refine bQ ?_ | refine cTa ?_ | refine cFa ?_) | simp only [qS, Nat.reduceEqDiff, ↓reduceIte]))
 refine rt1 ?_
 rfl
theorem Fu (m : Int) (ll : List (List Int)) (hs : Sm ll) : AFn Tryz.prog 89 [.agg [.int .i64 m, .sl false 27 (rowsF ll)]] (.bool (isPl m ll)) := by
 refine fO Tryz.func89 Tryz.ntmps89 (by rw [Tryz.results89]) fun C hP hM hC => ?_
 have hD := A5 m ll (by have := hs.1; omega)
 cases hm : (decide (2 ≤ m) && decide (m ≤ 10000)) with
 | false =>
  (repeat (first | ((with_reducible refine rC rfl fun K hK => ?_); simp only [go_sem, seval, ↓reduceIte, hm]; (first | refine hK _ _ _ ?_ | refine ⟨_, De _, hK _ _ _ ?_⟩); clear hK K) | (with_reducible first | refine rN ?_ | refine sQ ?_ | refine tY hC hP ?_ | refine aY hC hM hP ?_ | refine kQ ?_ | refine lQ ?_ | refine eQ ?_ | refine bQ ?_ | refine cTa ?_ | refine cFa ?_) | simp only [qS, Nat.reduceEqDiff, ↓reduceIte]))
  refine rt1 ?_
  simp [isPl, hm]
 | true =>
  have hm2 : 2 ≤ m ∧ m ≤ 10000 := by simpa using hm
  cases hd : (decide (1 ≤ (ll.length : Int) - 1) && decide ((ll.length : Int) - 1 ≤ 10)) with
  | false =>
   (repeat (first | ((with_reducible refine rC rfl fun K hK => ?_); simp only [go_sem, seval, ↓reduceIte, hm, hd]; (first | refine hK _ _ _ ?_ | refine ⟨_, De _, hK _ _ _ ?_⟩ | refine ⟨_, Fc _ _ _, hK _ _ _ ?_⟩ | refine ⟨_, hD, hK _ _ _ ?_⟩); clear hK K) | (with_reducible first | refine rN ?_ | refine sQ ?_ | refine tY hC hP ?_ | refine aY hC hM hP ?_ | refine kQ ?_ | refine lQ ?_ | refine eQ ?_ | refine bQ ?_ | refine cTa ?_ | refine cFa ?_) | simp only [qS, Nat.reduceEqDiff, ↓reduceIte]))
   refine rt1 ?_
   simp [isPl, hm, hd]
  | true =>
   have hd2 : 2 ≤ ll.length ∧ ll.length ≤ 11 := by simp at hd; omega
   (repeat (first | ((with_reducible refine rC rfl fun K hK => ?_); simp only [go_sem, seval, ↓reduceIte, hm, hd, Ac]; (first | refine hK _ _ _ ?_ | refine ⟨_, De _, hK _ _ _ ?_⟩ | refine ⟨_, Fc _ _ _, hK _ _ _ ?_⟩ | refine ⟨_, hD, hK _ _ _ ?_⟩); clear hK K) | (with_reducible first | refine rN ?_ | refine sQ ?_ | refine tY hC hP ?_ | refine aY hC hM hP ?_ | refine kQ ?_ | refine lQ ?_ | refine eQ ?_ | refine bQ ?_ | refine cTa ?_ | refine cFa ?_) | simp only [qS, Nat.reduceEqDiff, ↓reduceIte]))
   refine AWP.loop (fun i : Nat => [(18, ⟨0, .val (.int .i64 i)⟩), (17, ⟨0, .val (.int .i64 ll.length)⟩), (16, ⟨0, .val (.sl false 27 (rowsF ll))⟩), (1, ⟨1, .own (.box 26 (.agg [.int .i64 m, .sl false 27 (rowsF ll)]))⟩)]) (fun i => i ≤ ll.length ∧ ∀ j, j < i → rowB m ll j = true) (fun i => ll.length - i) 0 ⟨Nat.zero_le _, fun j hj => absurd hj (Nat.not_lt_zero _)⟩ (fun i => rfl) ?_ (fun i hi => ?_)
   ·simp [Sub, lk]
   ·by_cases hlt : i < ll.length
    ·have w1 : IntKind.i64.wrap ((ll.length : Int) - (i : Int)) = ((ll.length - i : Nat) : Int) := by rw [wid _ (by omega) (by omega)]; omega
     have hsr := hs.2 i
     by_cases hln : (ll.getD i []).length = ll.length - i
     ·cases hx : (ll.getD i []).all (isNum m) with
      | true =>
       (repeat (first | ((with_reducible refine rC rfl fun K hK => ?_); simp only [go_sem, seval, ↓reduceIte, show (i : Int) < (ll.length : Int) by omega, Aj ll i hlt, Ac, Int.toNat_natCast, Int.natCast_nonneg, w1, hln, show ((((ll.length - i : Nat) : Int)) != ((ll.length - i : Nat) : Int)) = false by simp, hx, wid ((i : Int) + 1) (by omega) (by omega)]; (first | refine hK _ _ _ ?_ | refine ⟨_, D9 (ll.getD i []) (by omega) 190 [.fptr (.agg [.int .i64 m, .sl false 27 (rowsF ll)])] (by decide) (by rfl) (by simp [T.pureL, T.pure, Cn]) (fun c => rfl) (isNum m) (fun x hx => Ho x m ll (by omega) (by omega)), hK _ _ _ ?_⟩); clear hK K) | (with_reducible first | refine rN ?_ | refine sQ ?_ | refine tY hC hP ?_ | refine aY hC hM hP ?_ | refine kQ ?_ | refine lQ ?_ | refine eQ ?_ | refine bQ ?_ | refine cTa ?_ | refine cFa ?_) | simp only [qS, Nat.reduceEqDiff, ↓reduceIte]))
       refine ⟨i + 1, ⟨by omega, fun j hj => ?_⟩, by omega, by simp [Sub, lk]⟩
       by_cases e : j = i
       ·rw [e, rowB, hx, hln]; simp
       ·exact hi.2 j (by omega)
      | false =>
       (repeat (first | ((with_reducible refine rC rfl fun K hK => ?_); simp only [go_sem, seval, ↓reduceIte, show (i : Int) < (ll.length : Int) by omega, Aj ll i hlt, Ac, Int.toNat_natCast, Int.natCast_nonneg, w1, hln, show ((((ll.length - i : Nat) : Int)) != ((ll.length - i : Nat) : Int)) = false by simp, hx]; (first | refine hK _ _ _ ?_ | refine ⟨_, D9 (ll.getD i []) (by omega) 190 [.fptr (.agg [.int .i64 m, .sl false 27 (rowsF ll)])] (by decide) (by rfl) (by simp [T.pureL, T.pure, Cn]) (fun c => rfl) (isNum m) (fun x hx => Ho x m ll (by omega) (by omega)), hK _ _ _ ?_⟩); clear hK K) | (with_reducible first | refine rN ?_ | refine sQ ?_ | refine tY hC hP ?_ | refine aY hC hM hP ?_ | refine kQ ?_ | refine lQ ?_ | refine eQ ?_ | refine bQ ?_ | refine cTa ?_ | refine cFa ?_) | simp only [qS, Nat.reduceEqDiff, ↓reduceIte]))
       refine rt1 ?_
       rw [Jm hlt (by rw [rowB, hx, Bool.and_false])]
     ·(repeat (first | ((with_reducible refine rC rfl fun K hK => ?_); simp only [go_sem, seval, ↓reduceIte, show (i : Int) < (ll.length : Int) by omega, Aj ll i hlt, Ac, Int.toNat_natCast, Int.natCast_nonneg, w1, show ((((ll.getD i []).length : Nat) : Int) != ((ll.length - i : Nat) : Int)) = true by rw [bne_iff_ne]; omega]; refine hK _ _ _ ?_; clear hK K) | (with_reducible first | refine rN ?_ | refine sQ ?_ | refine tY hC hP ?_ | refine aY hC hM hP ?_ | refine kQ ?_ | refine lQ ?_ | refine eQ ?_ | refine bQ ?_ | refine cTa ?_ | refine cFa ?_) | simp only [qS, Nat.reduceEqDiff, ↓reduceIte]))
      refine rt1 ?_
      rw [Jm hlt (by rw [rowB, show ((ll.getD i []).length == ll.length - i) = false by simpa using hln, Bool.false_and])]
    ·(repeat (first | ((with_reducible refine rC rfl fun K hK => ?_); simp only [go_sem, seval, ↓reduceIte, show ¬ (i : Int) < (ll.length : Int) by omega]; refine hK _ _ _ ?_; clear hK K) | (with_reducible first | refine rN ?_ | refine sQ ?_ | refine tY hC hP ?_ | refine aY hC hM hP ?_ | refine kQ ?_ | refine lQ ?_ | refine eQ ?_ | refine bQ ?_ | refine cTa ?_ | refine cFa ?_) | simp only [qS, Nat.reduceEqDiff, ↓reduceIte]))
     refine rt1 ?_
     rw [Nv hm hd (fun j hj => hi.2 j (by omega))]
theorem He (m : Int) (ll : List (List Int)) (hs : Sm ll) : AFn Tryz.prog 85 [.agg [.int .i64 m, .sl false 27 (rowsF ll)]] (.bool (isPl m ll)) := by
 refine fO Tryz.func85 Tryz.ntmps85 (by rw [Tryz.results85]) fun C hP hM hC => ?_
 cases hm : (decide (2 ≤ m) && decide (m ≤ 10000)) with
 | false =>
  (repeat (first | ((with_reducible refine rC rfl fun K hK => ?_); simp only [go_sem, seval, ↓reduceIte, hm, Ac]; (first | refine hK _ _ _ ?_ | refine ⟨_, C8 _, hK _ _ _ ?_⟩); clear hK K) | (with_reducible first | refine rN ?_ | refine sQ ?_ | refine tY hC hP ?_ | refine aY hC hM hP ?_ | refine kQ ?_ | refine lQ ?_ | refine eQ ?_ | refine bQ ?_ | refine cTa ?_ | refine cFa ?_) | simp only [qS, Nat.reduceEqDiff, ↓reduceIte]))
  refine rt1 ?_
  simp [isPl, hm]
 | true =>
  have hm2 : 2 ≤ m ∧ m ≤ 10000 := by simpa using hm
  by_cases h2 : ll.length < 2
  ·(repeat (first | ((with_reducible refine rC rfl fun K hK => ?_); simp only [go_sem, seval, ↓reduceIte, hm, Ac, show (ll.length : Int) < 2 by omega]; (first | refine hK _ _ _ ?_ | refine ⟨_, C8 _, hK _ _ _ ?_⟩); clear hK K) | (with_reducible first | refine rN ?_ | refine sQ ?_ | refine tY hC hP ?_ | refine aY hC hM hP ?_ | refine kQ ?_ | refine lQ ?_ | refine eQ ?_ | refine bQ ?_ | refine cTa ?_ | refine cFa ?_) | simp only [qS, Nat.reduceEqDiff, ↓reduceIte]))
   refine rt1 ?_
   rw [isPl, show (decide (1 ≤ (ll.length : Int) - 1) && decide ((ll.length : Int) - 1 ≤ 10)) = false by simp; omega]; simp
  ·by_cases h11 : 11 < ll.length
   ·(repeat (first | ((with_reducible refine rC rfl fun K hK => ?_); simp only [go_sem, seval, ↓reduceIte, hm, Ac, show ¬ (ll.length : Int) < 2 by omega, show (11 : Int) < (ll.length : Int) by omega]; (first | refine hK _ _ _ ?_ | refine ⟨_, C8 _, hK _ _ _ ?_⟩); clear hK K) | (with_reducible first | refine rN ?_ | refine sQ ?_ | refine tY hC hP ?_ | refine aY hC hM hP ?_ | refine kQ ?_ | refine lQ ?_ | refine eQ ?_ | refine bQ ?_ | refine cTa ?_ | refine cFa ?_) | simp only [qS, Nat.reduceEqDiff, ↓reduceIte]))
    refine rt1 ?_
    rw [isPl, show (decide (1 ≤ (ll.length : Int) - 1) && decide ((ll.length : Int) - 1 ≤ 10)) = false by simp; omega]; simp
   ·have hd : (decide (1 ≤ (ll.length : Int) - 1) && decide ((ll.length : Int) - 1 ≤ 10)) = true := by simp; omega
    (repeat (first | ((with_reducible refine rC rfl fun K hK => ?_); simp only [go_sem, seval, ↓reduceIte, hm, Ac, show ¬ (ll.length : Int) < 2 by omega, show ¬ (11 : Int) < (ll.length : Int) by omega]; (first | refine hK _ _ _ ?_ | refine ⟨_, C8 _, hK _ _ _ ?_⟩); clear hK K) | (with_reducible first | refine rN ?_ | refine sQ ?_ | refine tY hC hP ?_ | refine aY hC hM hP ?_ | refine kQ ?_ | refine lQ ?_ | refine eQ ?_ | refine bQ ?_ | refine cTa ?_ | refine cFa ?_) | simp only [qS, Nat.reduceEqDiff, ↓reduceIte]))
    refine AWP.loop (fun i : Nat => [(4, ⟨0, .val (.int .i64 i)⟩), (3, ⟨0, .val (.int .i64 ll.length)⟩), (1, ⟨1, .own (.box 26 (.agg [.int .i64 m, .sl false 27 (rowsF ll)]))⟩)]) (fun i => i ≤ ll.length ∧ ∀ j, j < i → rowB m ll j = true) (fun i => ll.length - i) 0 ⟨Nat.zero_le _, fun j hj => absurd hj (Nat.not_lt_zero _)⟩ (fun i => rfl) ?_ (fun i hi => ?_)
    ·simp [Sub, lk]
    ·by_cases hlt : i < ll.length
     ·have w1 : IntKind.i64.wrap ((ll.length : Int) - (i : Int)) = ((ll.length - i : Nat) : Int) := by rw [wid _ (by omega) (by omega)]; omega
      have hsr := hs.2 i
      by_cases hln : (ll.getD i []).length = ll.length - i
      ·cases hx : (ll.getD i []).all (isNum m) with
       | true =>
        (repeat (first | ((with_reducible refine rC rfl fun K hK => ?_); simp only [go_sem, seval, ↓reduceIte, show (i : Int) < (ll.length : Int) by omega, Aj ll i hlt, Ac, Int.toNat_natCast, Int.natCast_nonneg, w1, hln, show ((((ll.length - i : Nat) : Int)) != ((ll.length - i : Nat) : Int)) = false by simp, hx, wid ((i : Int) + 1) (by omega) (by omega)]; (first | refine hK _ _ _ ?_ | refine ⟨_, Ev m (ll.getD i []) (by omega) (by omega) (by omega), hK _ _ _ ?_⟩); clear hK K) | (with_reducible first | refine rN ?_ | refine sQ ?_ | refine tY hC hP ?_ | refine aY hC hM hP ?_ | refine kQ ?_ | refine lQ ?_ | refine eQ ?_ | refine bQ ?_ | refine cTa ?_ | refine cFa ?_) | simp only [qS, Nat.reduceEqDiff, ↓reduceIte]))
        refine ⟨i + 1, ⟨by omega, fun j hj => ?_⟩, by omega, by simp [Sub, lk]⟩
        by_cases e : j = i
        ·rw [e, rowB, hx, hln]; simp
        ·exact hi.2 j (by omega)
       | false =>
        (repeat (first | ((with_reducible refine rC rfl fun K hK => ?_); simp only [go_sem, seval, ↓reduceIte, show (i : Int) < (ll.length : Int) by omega, Aj ll i hlt, Ac, Int.toNat_natCast, Int.natCast_nonneg, w1, hln, show ((((ll.length - i : Nat) : Int)) != ((ll.length - i : Nat) : Int)) = false by simp, hx]; (first | refine hK _ _ _ ?_ | refine ⟨_, Ev m (ll.getD i []) (by omega) (by omega) (by omega), hK _ _ _ ?_⟩); clear hK K) | (with_reducible first | refine rN ?_ | refine sQ ?_ | refine tY hC hP ?_ | refine aY hC hM hP ?_ | refine kQ ?_ | refine lQ ?_ | refine eQ ?_ | refine bQ ?_ | refine cTa ?_ | refine cFa ?_) | simp only [qS, Nat.reduceEqDiff, ↓reduceIte]))
        refine rt1 ?_
        rw [Jm hlt (by rw [rowB, hx, Bool.and_false])]
      ·(repeat (first | ((with_reducible refine rC rfl fun K hK => ?_); simp only [go_sem, seval, ↓reduceIte, show (i : Int) < (ll.length : Int) by omega, Aj ll i hlt, Ac, Int.toNat_natCast, Int.natCast_nonneg, w1, show ((((ll.getD i []).length : Nat) : Int) != ((ll.length - i : Nat) : Int)) = true by rw [bne_iff_ne]; omega]; refine hK _ _ _ ?_; clear hK K) | (with_reducible first | refine rN ?_ | refine sQ ?_ | refine tY hC hP ?_ | refine aY hC hM hP ?_ | refine kQ ?_ | refine lQ ?_ | refine eQ ?_ | refine bQ ?_ | refine cTa ?_ | refine cFa ?_) | simp only [qS, Nat.reduceEqDiff, ↓reduceIte]))
       refine rt1 ?_
       rw [Jm hlt (by rw [rowB, show ((ll.getD i []).length == ll.length - i) = false by simpa using hln, Bool.false_and])]
     ·(repeat (first | ((with_reducible refine rC rfl fun K hK => ?_); simp only [go_sem, seval, ↓reduceIte, show ¬ (i : Int) < (ll.length : Int) by omega]; refine hK _ _ _ ?_; clear hK K) | (with_reducible first | refine rN ?_ | refine sQ ?_ | refine tY hC hP ?_ | refine aY hC hM hP ?_ | refine kQ ?_ | refine lQ ?_ | refine eQ ?_ | refine bQ ?_ | refine cTa ?_ | refine cFa ?_) | simp only [qS, Nat.reduceEqDiff, ↓reduceIte]))
      refine rt1 ?_
      rw [Nv hm hd (fun j hj => hi.2 j (by omega))]
noncomputable def lawB (m : Int) (ll : List (List Int)) : Bool := isPl m ll && @decide (IsLw m ll.length (pc ll)) (Classical.propDecidable _)
theorem Fx {m : Int} {ll : List (List Int)} (h : lawB m ll = true) : isPl m ll = true ∧ IsLw m ll.length (pc ll) := by
 unfold lawB at h
 rw [Bool.and_eq_true] at h
 exact ⟨h.1, @of_decide_eq_true _ (Classical.propDecidable _) h.2⟩
theorem J8 {m : Int} {ll : List (List Int)} (h1 : isPl m ll = true) (h2 : IsLw m ll.length (pc ll)) : lawB m ll = true := by
 unfold lawB
 rw [Bool.and_eq_true]
 exact ⟨h1, @decide_eq_true _ (Classical.propDecidable _) h2⟩
theorem T5 {m : Int} {ll : List (List Int)} (h1 : isPl m ll = false) : lawB m ll = false := by
 unfold lawB; rw [h1, Bool.false_and]
theorem Sb {m : Int} {ll : List (List Int)} (h2 : ¬ IsLw m ll.length (pc ll)) : lawB m ll = false := by
 unfold lawB; rw [Bool.and_eq_false_iff]; exact .inr (@decide_eq_false _ (Classical.propDecidable _) h2)
theorem Le (m : Int) (ll : List (List Int)) (hs : Sm ll) : AFn Tryz.prog 159 [.agg [.int .i64 m, .sl false 27 (rowsF ll)]] (.bool (lawB m ll)) := by
 refine fO Tryz.func159 Tryz.ntmps159 (by rw [Tryz.results159]) fun C hP hM hC => ?_
 cases hp : isPl m ll with
 | false =>
  (repeat (first | ((with_reducible refine rC rfl fun K hK => ?_); simp only [go_sem, seval, ↓reduceIte, hp]; (first | refine hK _ _ _ ?_ | refine ⟨_, He m ll hs, hK _ _ _ ?_⟩); clear hK K) | (with_reducible first | refine rN ?_ | refine sQ ?_ | refine tY hC hP ?_ | refine aY hC hM hP ?_ | refine kQ ?_ | refine lQ ?_ | refine eQ ?_ | refine bQ ?_ | refine cTa ?_ | refine cFa ?_) | simp only [qS, Nat.reduceEqDiff, ↓reduceIte]))
  refine rt1 ?_
  rw [T5 hp]
 | true =>
  have hz := Eo hp
  obtain ⟨r, hr, hn⟩ := Tw m ll.length (pc ll)
  have hF := O2 m ll ll.length r (by omega) (by omega) hz.2.2.2.2 (by omega) (by omega) hr
  by_cases hl : IsLw m ll.length (pc ll)
  ·have e := hr.none hl
   subst e
   (repeat (first | ((with_reducible refine rC rfl fun K hK => ?_); simp only [go_sem, seval, ↓reduceIte, hp, show ((0 : Int) == 0) = true from rfl]; (first | refine hK _ _ _ ?_ | refine ⟨_, He m ll hs, hK _ _ _ ?_⟩ | refine ⟨_, hF, hK _ _ _ ?_⟩); clear hK K) | (with_reducible first | refine rN ?_ | refine sQ ?_ | refine tY hC hP ?_ | refine aY hC hM hP ?_ | refine kQ ?_ | refine lQ ?_ | refine eQ ?_ | refine bQ ?_ | refine cTa ?_ | refine cFa ?_) | simp only [qS, Nat.reduceEqDiff, ↓reduceIte]))
   refine rt1 ?_
   rw [J8 hp hl]
  ·obtain ⟨x, l, e⟩ := hn hl
   subst e
   (repeat (first | ((with_reducible refine rC rfl fun K hK => ?_); simp only [go_sem, seval, ↓reduceIte, hp, List.length_cons, show (((l.length + 1 : Nat) : Int) == 0) = false by rw [beq_eq_false_iff_ne]; omega]; (first | refine hK _ _ _ ?_ | refine ⟨_, He m ll hs, hK _ _ _ ?_⟩ | refine ⟨_, hF, hK _ _ _ ?_⟩); clear hK K) | (with_reducible first | refine rN ?_ | refine sQ ?_ | refine tY hC hP ?_ | refine aY hC hM hP ?_ | refine kQ ?_ | refine lQ ?_ | refine eQ ?_ | refine bQ ?_ | refine cTa ?_ | refine cFa ?_) | simp only [qS, Nat.reduceEqDiff, ↓reduceIte]))
   refine rt1 ?_
   rw [Sb hl]
end Go.Proofs.YtapdekacpecgiaaGreat
