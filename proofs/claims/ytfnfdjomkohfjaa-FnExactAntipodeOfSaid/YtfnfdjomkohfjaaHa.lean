/-
  Laws over prime fields: where the multiple by the prime begins.
-/
import Derived.Test.YtfnfdjomkohfjaaAc
import Derived.Test.YtfnfdjomkohfjaaKk
import Derived.Test.YtfnfdjomkohfjaaLa
import Derived.Test.YtfnfdjomkohfjaaQe
import Derived.Test.YtfnfdjomkohfjaaKl
namespace Go.Proofs.Ytfnfdjomkohfjaa
open Go.RowKit
set_option linter.unusedSimpArgs false
set_option linter.unusedVariables false
set_option linter.unusedSectionVars false
set_option maxRecDepth 20000
-- Laws over prime fields: where the multiple by the prime begins.
theorem least {p : Nat → Prop} (h : ∃ i, p i) : ∃ i, p i ∧ ∀ j, j < i → ¬ p j := by
  obtain ⟨i, hi⟩ := h
  induction i using Nat.strongRecOn with
  | _ i ih =>
    by_cases h : ∃ j, j < i ∧ p j
    · obtain ⟨j, h1, h2⟩ := h; exact ih j h1 h2
    · exact ⟨i, hi, fun j hj hp => h ⟨j, hj, hp⟩⟩
theorem ld_cases (l : List Int) : (∀ i, at' l i = 0) ∨ ∃ i, i < l.length ∧ at' l i ≠ 0 ∧ ∀ j, j < i → at' l j = 0 := by
  by_cases h : ∃ i, at' l i ≠ 0
  · obtain ⟨i, h1, h2⟩ := least h
    right
    refine ⟨i, ?_, h1, fun j hj => Classical.not_not.1 (h2 j hj)⟩
    exact Classical.byContradiction fun e => h1 (at_out (by omega))
  · left; intro i; exact Classical.not_not.1 fun e => h ⟨i, e⟩
theorem Pl.out {m : Int} {n : Nat} {ll : List (List Int)} (h : Pl m n ll) (i j : Nat) (hij : n ≤ i + j) : pc ll i j = 0 := by
  by_cases hi : i < n
  · have := h.row i hi
    exact at_out (l := ll.getD i []) (by omega)
  · have e : ll.getD i [] = [] := by rw [List.getD_eq_getElem?_getD, List.getElem?_eq_none (by rw [h.len]; omega)]; rfl
    rw [pc, e]; rfl
theorem lw_of {m : Int} {ll : List (List Int)} (h : lawB m ll = true) : ∃ d, 1 ≤ d ∧ d ≤ 10 ∧ ll.length = d + 1 ∧ 1 < m ∧ m ≤ 10000 ∧ Pl m (d + 1) ll ∧ IsLw m (d + 1) (pc ll) := by
  have h1 := lawB_of h
  have h2 := isPl_of h1.1
  refine ⟨ll.length - 1, by omega, by omega, by omega, by omega, h2.2.1, ?_, ?_⟩
  · rw [show ll.length - 1 + 1 = ll.length by omega]; exact h2.2.2.2.2
  · rw [show ll.length - 1 + 1 = ll.length by omega]; exact h1.2
theorem isSer_yes {m : Int} {l : List Int} (h1 : 1 < m) (h2 : m ≤ 10000) (h3 : 2 ≤ l.length) (h4 : l.length ≤ 11) (h5 : ∀ x ∈ l, 0 ≤ x ∧ x < m) : isSer m l = true := by
  simp only [isSer, Bool.and_eq_true, decide_eq_true_eq, List.all_eq_true, isNum]
  exact ⟨⟨⟨by omega, h2⟩, by omega, by omega⟩, fun x hx => by have := h5 x hx; omega⟩
/-- The primes of heights. -/
def prB (m : Int) : Bool := decide (m = 2 ∨ m = 3 ∨ m = 5 ∨ m = 7)
theorem prB_of {m : Int} (h : prB m = true) : m = 2 ∨ m = 3 ∨ m = 5 ∨ m = 7 := of_decide_eq_true h
/-- N is the least place of a coefficient other than 0, and h the height; 0 and 0 where there is none. -/
def HtC (p d : Nat) (P : List Int) (N h : Nat) : Prop := (N = 0 ∧ h = 0 ∧ ∀ i, at' P i = 0) ∨ (1 ≤ h ∧ N = p ^ h ∧ N ≤ d ∧ at' P N ≠ 0 ∧ ∀ i, i < N → at' P i = 0)
theorem ht_ex {m : Int} {d : Nat} {ll : List (List Int)} (pr : m = 2 ∨ m = 3 ∨ m = 5 ∨ m = 7) (hd : 1 ≤ d) (hl : Pl m (d + 1) ll) (hw : IsLw m (d + 1) (pc ll)) : ∃ x : Nat × Nat, HtC m.toNat d (mzL m (pc ll) d (varL d) m) x.1 x.2 := by
  have e : mzL m (pc ll) d (varL d) m = muL m (pc ll) d (zrL d) (varL d) m.toNat := if_neg (by omega)
  have f := mzL_facts (m := m) (by omega) (pc ll) d (varL d) m
  rcases ld_cases (mzL m (pc ll) d (varL d) m) with h | ⟨N, h1, h2, h3⟩
  · exact ⟨(0, 0), .inl ⟨rfl, rfl, h⟩⟩
  · have hb := at_bound f.2 (by omega) N
    obtain ⟨h, k1, k2⟩ := height_lead pr hd (fun i j hij => hl.out i j (by omega)) hw (N := N) (by omega) e h3 (by rw [Int.emod_eq_of_lt hb.1 hb.2]; exact h2)
    exact ⟨(N, h), .inr ⟨k1, k2, by simp only; omega, h2, h3⟩⟩
def pmL (m : Int) (ll : List (List Int)) : List Int := mzL m (pc ll) (ll.length - 1) (varL (ll.length - 1)) m
noncomputable def htX (m : Int) (ll : List (List Int)) : Nat × Nat := @dite _ (∃ x : Nat × Nat, HtC m.toNat (ll.length - 1) (pmL m ll) x.1 x.2) (Classical.propDecidable _) (fun h => Classical.choose h) (fun _ => (0, 0))
theorem htX_ok {m : Int} {ll : List (List Int)} (h : lawB m ll = true) (hp : prB m = true) : HtC m.toNat (ll.length - 1) (pmL m ll) (htX m ll).1 (htX m ll).2 := by
  obtain ⟨d, h1, h2, h3, h4, h5, h6, h7⟩ := lw_of h
  have hx := ht_ex (prB_of hp) h1 h6 h7
  have e : ll.length - 1 = d := by omega
  have hy : ∃ x : Nat × Nat, HtC m.toNat (ll.length - 1) (pmL m ll) x.1 x.2 := by unfold pmL; rw [e]; exact hx
  have e2 : htX m ll = Classical.choose hy := dif_pos hy
  rw [e2]
  exact Classical.choose_spec hy
theorem ord_none {l : List Int} (h : ∀ i, at' l i = 0) : idxOf (fun x => x != 0) l = -1 := idxOf_none fun j _ => by
  have := h j
  unfold at' at this
  rw [this]; rfl
theorem ord_some {l : List Int} {i : Nat} (h1 : i < l.length) (h2 : at' l i ≠ 0) (h3 : ∀ j, j < i → at' l j = 0) : idxOf (fun x => x != 0) l = i := idxOf_some h1 (by
  unfold at' at h2
  simpa using h2) fun j hj => by
  have := h3 j hj
  unfold at' at this
  rw [this]; rfl
/-- The least place of a coefficient other than 0, or 0. -/
def ordN (l : List Int) : Int := if idxOf (fun x => x != 0) l < 0 then 0 else idxOf (fun x => x != 0) l
def ordC (l : List Int) : Int := if idxOf (fun x => x != 0) l < 0 then 5 else 0
theorem ht_ord {p d : Nat} {P : List Int} {N h : Nat} (hP1 : P.length = d + 1) (H : HtC p d P N h) : ordN P = N := by
  rcases H with ⟨rfl, _, h1⟩ | ⟨_, _, h1, h2, h3⟩
  · rw [ordN, ord_none h1]; rfl
  · rw [ordN, ord_some (by omega) h2 h3, if_neg (by omega)]
-- Heights: the tests, and the multiple by the prime.
set_option maxHeartbeats 1000000 in
theorem c_impl_isTypicalPrime (m : Int) : AFn Try.prog 133 [.int .i64 m] (.bool (prB m)) := by
  refine AFn.of' ttOk (by decide) Try.func133 Try.ntmps133 (by rw [Try.results133]) (by rfl) (by rfl) (by simp) (by decide) (by simp only [go_sem, Nat.reduceAdd, ↓reduceIte]; rfl) mixed (fun C hP hM hC => ?_)
  cases b2 : (m == 2) <;> cases b3 : (m == 3) <;> cases b5 : (m == 5) <;> cases b7 : (m == 7) <;> ((repeat (first | ((with_reducible refine rgn_cons rfl (fun K hK => ?_)); simp only [go_sem, seval, ↓reduceIte, decide_true, decide_false, b2, b3, b5, b7]; (refine hK _ _ _ (by simp only [go_sem, Nat.reduceEqDiff, ↓reduceIte]; rfl) ?_); clear hK; clear K) | (with_reducible first | refine rgn_nil (by first | trivial | kernel_rfl) ?_ | refine AWP.seq ?_ | refine tX hC hP (by kernel_rfl) ?_ | refine aX hC hM hP (by kernel_rfl) ?_ | refine AWP.skip ?_ | refine AWP.label ?_ | refine AWP.exit ?_ | refine AWP.block ?_ | refine cTa ?_ | refine cFa ?_) | simp only [qS, Nat.reduceEqDiff, ↓reduceIte])); (refine AWP.ret ?_; refine retOk1 (by simp only [go_sem, seval, ↓reduceIte, decide_true, decide_false]; rfl) ?_); congr 1; simp only [beq_iff_eq, beq_eq_false_iff_ne] at b2 b3 b5 b7; unfold prB; first | (apply decide_eq_true; omega) | (apply decide_eq_false; omega))
set_option maxHeartbeats 1000000 in
theorem c_spec_l09Prime (m : Int) : AFn Try.prog 72 [.int .i64 m] (.bool (prB m)) := by
  refine AFn.of' ttOk (by decide) Try.func72 Try.ntmps72 (by rw [Try.results72]) (by rfl) (by rfl) (by simp) (by decide) (by simp only [go_sem, Nat.reduceAdd, ↓reduceIte]; rfl) mixed (fun C hP hM hC => ?_)
  cases b2 : (m == 2) <;> cases b3 : (m == 3) <;> cases b5 : (m == 5) <;> cases b7 : (m == 7) <;> ((repeat (first | ((with_reducible refine rgn_cons rfl (fun K hK => ?_)); simp only [go_sem, seval, ↓reduceIte, decide_true, decide_false, b2, b3, b5, b7]; (refine hK _ _ _ (by simp only [go_sem, Nat.reduceEqDiff, ↓reduceIte]; rfl) ?_); clear hK; clear K) | (with_reducible first | refine rgn_nil (by first | trivial | kernel_rfl) ?_ | refine AWP.seq ?_ | refine tX hC hP (by kernel_rfl) ?_ | refine aX hC hM hP (by kernel_rfl) ?_ | refine AWP.skip ?_ | refine AWP.label ?_ | refine AWP.exit ?_ | refine AWP.block ?_ | refine cTa ?_ | refine cFa ?_) | simp only [qS, Nat.reduceEqDiff, ↓reduceIte])); (refine AWP.ret ?_; refine retOk1 (by simp only [go_sem, seval, ↓reduceIte, decide_true, decide_false]; rfl) ?_); congr 1; simp only [beq_iff_eq, beq_eq_false_iff_ne] at b2 b3 b5 b7; unfold prB; first | (apply decide_eq_true; omega) | (apply decide_eq_false; omega))
noncomputable def htC (m : Int) (ll : List (List Int)) : Int := if lawB m ll = true then (if prB m = true then 0 else 5) else 1
theorem htC_zero {m : Int} {ll : List (List Int)} (h : htC m ll = 0) : lawB m ll = true ∧ prB m = true := by
  unfold htC at h
  split at h
  · rename_i h1
    split at h
    · rename_i h2; exact ⟨h1, h2⟩
    · cases h
  · cases h
set_option maxHeartbeats 1000000 in
theorem c_impl_heighted (m : Int) (ll : List (List Int)) (hs : Sm ll) : AFn Try.prog 112 [.agg [.int .i64 m, .sl false 25 (rowsF ll)]] (.int .i64 (htC m ll)) := by
  refine AFn.of' ttOk (by decide) Try.func112 Try.ntmps112 (by rw [Try.results112]) (by rfl) (by rfl) (by simp) (by decide) (by simp only [go_sem, Nat.reduceAdd, ↓reduceIte]; rfl) mixed (fun C hP hM hC => ?_)
  cases hb : lawB m ll with
  | false =>
    (repeat (first | ((with_reducible refine rgn_cons rfl (fun K hK => ?_)); simp only [go_sem, seval, ↓reduceIte, decide_true, decide_false, hb]; (first | refine hK _ _ _ (by simp only [go_sem, Nat.reduceEqDiff, ↓reduceIte]; rfl) ?_ | refine ⟨_, c_impl_IsLaw m ll hs, hK _ _ _ (by simp only [go_sem, Nat.reduceEqDiff, ↓reduceIte]; rfl) ?_⟩); clear hK; clear K) | (with_reducible first | refine rgn_nil (by first | trivial | kernel_rfl) ?_ | refine AWP.seq ?_ | refine tX hC hP (by kernel_rfl) ?_ | refine aX hC hM hP (by kernel_rfl) ?_ | refine AWP.skip ?_ | refine AWP.label ?_ | refine AWP.exit ?_ | refine AWP.block ?_ | refine cTa ?_ | refine cFa ?_) | simp only [qS, Nat.reduceEqDiff, ↓reduceIte]))
    (refine AWP.ret ?_; refine retOk1 (by simp only [go_sem, seval, ↓reduceIte, decide_true, decide_false]; rfl) ?_)
    simp [htC, hb]
  | true =>
    cases hp : prB m with
    | false =>
      (repeat (first | ((with_reducible refine rgn_cons rfl (fun K hK => ?_)); simp only [go_sem, seval, ↓reduceIte, decide_true, decide_false, hb, hp]; (first | refine hK _ _ _ (by simp only [go_sem, Nat.reduceEqDiff, ↓reduceIte]; rfl) ?_ | refine ⟨_, c_impl_IsLaw m ll hs, hK _ _ _ (by simp only [go_sem, Nat.reduceEqDiff, ↓reduceIte]; rfl) ?_⟩ | refine ⟨_, c_impl_isTypicalPrime m, hK _ _ _ (by simp only [go_sem, Nat.reduceEqDiff, ↓reduceIte]; rfl) ?_⟩); clear hK; clear K) | (with_reducible first | refine rgn_nil (by first | trivial | kernel_rfl) ?_ | refine AWP.seq ?_ | refine tX hC hP (by kernel_rfl) ?_ | refine aX hC hM hP (by kernel_rfl) ?_ | refine AWP.skip ?_ | refine AWP.label ?_ | refine AWP.exit ?_ | refine AWP.block ?_ | refine cTa ?_ | refine cFa ?_) | simp only [qS, Nat.reduceEqDiff, ↓reduceIte]))
      (refine AWP.ret ?_; refine retOk1 (by simp only [go_sem, seval, ↓reduceIte, decide_true, decide_false]; rfl) ?_)
      simp [htC, hb, hp]
    | true =>
      (repeat (first | ((with_reducible refine rgn_cons rfl (fun K hK => ?_)); simp only [go_sem, seval, ↓reduceIte, decide_true, decide_false, hb, hp]; (first | refine hK _ _ _ (by simp only [go_sem, Nat.reduceEqDiff, ↓reduceIte]; rfl) ?_ | refine ⟨_, c_impl_IsLaw m ll hs, hK _ _ _ (by simp only [go_sem, Nat.reduceEqDiff, ↓reduceIte]; rfl) ?_⟩ | refine ⟨_, c_impl_isTypicalPrime m, hK _ _ _ (by simp only [go_sem, Nat.reduceEqDiff, ↓reduceIte]; rfl) ?_⟩); clear hK; clear K) | (with_reducible first | refine rgn_nil (by first | trivial | kernel_rfl) ?_ | refine AWP.seq ?_ | refine tX hC hP (by kernel_rfl) ?_ | refine aX hC hM hP (by kernel_rfl) ?_ | refine AWP.skip ?_ | refine AWP.label ?_ | refine AWP.exit ?_ | refine AWP.block ?_ | refine cTa ?_ | refine cFa ?_) | simp only [qS, Nat.reduceEqDiff, ↓reduceIte]))
      (refine AWP.ret ?_; refine retOk1 (by simp only [go_sem, seval, ↓reduceIte, decide_true, decide_false]; rfl) ?_)
      simp [htC, hb, hp]
set_option maxHeartbeats 1000000 in
theorem c_impl_OrderOfSeries_1 (x : Int) : AFn Try.prog 152 [.int .i64 x] (.bool (x != 0)) := by
  refine AFn.of' ttOk (by decide) Try.func152 Try.ntmps152 (by rw [Try.results152]) (by rfl) (by rfl) (by simp) (by decide) (by simp only [go_sem, Nat.reduceAdd, ↓reduceIte]; rfl) mixed (fun C hP hM hC => ?_)
  (repeat (first | ((with_reducible refine rgn_cons rfl (fun K hK => ?_)); simp only [go_sem, seval, ↓reduceIte, decide_true, decide_false]; (refine hK _ _ _ (by simp only [go_sem, Nat.reduceEqDiff, ↓reduceIte]; rfl) ?_); clear hK; clear K) | (with_reducible first | refine rgn_nil (by first | trivial | kernel_rfl) ?_ | refine AWP.seq ?_ | refine tX hC hP (by kernel_rfl) ?_ | refine aX hC hM hP (by kernel_rfl) ?_ | refine AWP.skip ?_ | refine AWP.label ?_ | refine AWP.exit ?_ | refine AWP.block ?_ | refine cTa ?_ | refine cFa ?_) | simp only [qS, Nat.reduceEqDiff, ↓reduceIte]))
  (refine AWP.ret ?_; refine retOk1 (by simp only [go_sem, seval, ↓reduceIte, decide_true, decide_false]; rfl) ?_)
  rfl
set_option maxHeartbeats 1000000 in
theorem c_impl_OrderOfSeries (m : Int) (l : List Int) (hs : isSer m l = true) : AFn Try.prog 134 [.agg [.int .i64 m, .sl false 2 (intL l)]] (.tup [.int .i64 (ordN l), .int .i64 (ordC l)]) := by
  refine AFn.of' ttOk (by decide) Try.func134 Try.ntmps134 (by rw [Try.results134]) (by rfl) (by rfl) (by simp) (by decide) (by simp only [go_sem, Nat.reduceAdd, ↓reduceIte]; rfl) mixed (fun C hP hM hC => ?_)
  have hlen := isSer_len hs
  have hX := c_slices_IndexFunc_int64_int64 l (by omega) 152 [] (by decide) (by rfl) (by rfl) (fun c => rfl) (fun x => x != 0) (fun x hx => c_impl_OrderOfSeries_1 x)
  by_cases h : idxOf (fun x => x != 0) l < 0
  · (repeat (first | ((with_reducible refine rgn_cons rfl (fun K hK => ?_)); simp only [go_sem, seval, ↓reduceIte, decide_true, decide_false, hs, h, decide_true]; (first | refine hK _ _ _ (by simp only [go_sem, Nat.reduceEqDiff, ↓reduceIte]; rfl) ?_ | refine ⟨_, c_impl_IsSeries m l (by omega), hK _ _ _ (by simp only [go_sem, Nat.reduceEqDiff, ↓reduceIte]; rfl) ?_⟩ | refine ⟨_, hX, hK _ _ _ (by simp only [go_sem, Nat.reduceEqDiff, ↓reduceIte]; rfl) ?_⟩); clear hK; clear K) | (with_reducible first | refine rgn_nil (by first | trivial | kernel_rfl) ?_ | refine AWP.seq ?_ | refine tX hC hP (by kernel_rfl) ?_ | refine aX hC hM hP (by kernel_rfl) ?_ | refine AWP.skip ?_ | refine AWP.label ?_ | refine AWP.exit ?_ | refine AWP.block ?_ | refine cTa ?_ | refine cFa ?_) | simp only [qS, Nat.reduceEqDiff, ↓reduceIte]))
    (refine AWP.ret ?_; refine retOk2 (by simp only [go_sem, seval, ↓reduceIte, decide_true, decide_false]; rfl) (by simp only [go_sem, seval, ↓reduceIte, decide_true, decide_false]; rfl) (by simp) ?_)
    simp [ordN, ordC, h]
  · (repeat (first | ((with_reducible refine rgn_cons rfl (fun K hK => ?_)); simp only [go_sem, seval, ↓reduceIte, decide_true, decide_false, hs, h, decide_false]; (first | refine hK _ _ _ (by simp only [go_sem, Nat.reduceEqDiff, ↓reduceIte]; rfl) ?_ | refine ⟨_, c_impl_IsSeries m l (by omega), hK _ _ _ (by simp only [go_sem, Nat.reduceEqDiff, ↓reduceIte]; rfl) ?_⟩ | refine ⟨_, hX, hK _ _ _ (by simp only [go_sem, Nat.reduceEqDiff, ↓reduceIte]; rfl) ?_⟩); clear hK; clear K) | (with_reducible first | refine rgn_nil (by first | trivial | kernel_rfl) ?_ | refine AWP.seq ?_ | refine tX hC hP (by kernel_rfl) ?_ | refine aX hC hM hP (by kernel_rfl) ?_ | refine AWP.skip ?_ | refine AWP.label ?_ | refine AWP.exit ?_ | refine AWP.block ?_ | refine cTa ?_ | refine cFa ?_) | simp only [qS, Nat.reduceEqDiff, ↓reduceIte]))
    (refine AWP.ret ?_; refine retOk2 (by simp only [go_sem, seval, ↓reduceIte, decide_true, decide_false]; rfl) (by simp only [go_sem, seval, ↓reduceIte, decide_true, decide_false]; rfl) (by simp) ?_)
    simp [ordN, ordC, h]
set_option maxHeartbeats 1000000 in
theorem c_impl_Plane_byPrime (m : Int) (ll : List (List Int)) (d : Nat) (hm : 1 < m) (hm2 : m ≤ 10000) (hl : Pl m (d + 1) ll) (hd1 : 1 ≤ d) (hd : d ≤ 10) : AFn Try.prog 113 [.agg [.int .i64 m, .sl false 25 (rowsF ll)]] (.tup [.agg [.int .i64 m, .sl true 2 (intL (mzL m (pc ll) d (varL d) m))], .int .i64 (ordN (mzL m (pc ll) d (varL d) m))]) := by
  refine AFn.of' ttOk (by decide) Try.func113 Try.ntmps113 (by rw [Try.results113]) (by rfl) (by rfl) (by simp) (by decide) (by simp only [go_sem, Nat.reduceAdd, ↓reduceIte]; rfl) mixed (fun C hP hM hC => ?_)
  have hD := c_impl_Plane_degree m ll (by have := hl.len; omega)
  rw [hl.len, show ((d + 1 : Nat) : Int) - 1 = (d : Int) by omega] at hD
  have hV := varL_facts hm d
  have f := mzL_facts (m := m) (by omega) (pc ll) d (varL d) m
  have hS := isSer_yes hm hm2 (by omega) (by omega) f.2
  have hO := c_impl_OrderOfSeries m (mzL m (pc ll) d (varL d) m) hS
  have hW := c_impl_Plane_multiple m m ll (varL d) d hm hm2 hl hd1 (by omega) hV.2 hV.1 (by omega) (by omega)
  have hZ := c_impl_variable m d hd1 (by omega)
  generalize mzL m (pc ll) d (varL d) m = P at *
  by_cases h : idxOf (fun x => x != 0) P < 0
  · have e1 : ordN P = 0 := if_pos h
    have e2 : ordC P = 5 := if_pos h
    rw [e1, e2] at hO
    rw [e1]
    (repeat (first | ((with_reducible refine rgn_cons rfl (fun K hK => ?_)); simp only [go_sem, seval, ↓reduceIte, decide_true, decide_false, show ((5 : Int) != 0) = true from rfl]; (first | refine hK _ _ _ (by simp only [go_sem, Nat.reduceEqDiff, ↓reduceIte]; rfl) ?_ | refine ⟨_, hD, hK _ _ _ (by simp only [go_sem, Nat.reduceEqDiff, ↓reduceIte]; rfl) ?_⟩ | refine ⟨_, hZ, hK _ _ _ (by simp only [go_sem, Nat.reduceEqDiff, ↓reduceIte]; rfl) ?_⟩ | refine ⟨_, hW, hK _ _ _ (by simp only [go_sem, Nat.reduceEqDiff, ↓reduceIte]; rfl) ?_⟩ | refine ⟨_, hO, hK _ _ _ (by simp only [go_sem, Nat.reduceEqDiff, ↓reduceIte]; rfl) ?_⟩); clear hK; clear K) | (with_reducible first | refine rgn_nil (by first | trivial | kernel_rfl) ?_ | refine AWP.seq ?_ | refine tX hC hP (by kernel_rfl) ?_ | refine aX hC hM hP (by kernel_rfl) ?_ | refine AWP.skip ?_ | refine AWP.label ?_ | refine AWP.exit ?_ | refine AWP.block ?_ | refine cTa ?_ | refine cFa ?_) | simp only [qS, Nat.reduceEqDiff, ↓reduceIte]))
    (refine AWP.ret ?_; refine retOk2 (by simp only [go_sem, seval, ↓reduceIte, decide_true, decide_false]; rfl) (by simp only [go_sem, seval, ↓reduceIte, decide_true, decide_false]; rfl) (by simp) ?_)
    rfl
  · have e2 : ordC P = 0 := if_neg h
    rw [e2] at hO
    (repeat (first | ((with_reducible refine rgn_cons rfl (fun K hK => ?_)); simp only [go_sem, seval, ↓reduceIte, decide_true, decide_false, show ((0 : Int) != 0) = false from rfl]; (first | refine hK _ _ _ (by simp only [go_sem, Nat.reduceEqDiff, ↓reduceIte]; rfl) ?_ | refine ⟨_, hD, hK _ _ _ (by simp only [go_sem, Nat.reduceEqDiff, ↓reduceIte]; rfl) ?_⟩ | refine ⟨_, hZ, hK _ _ _ (by simp only [go_sem, Nat.reduceEqDiff, ↓reduceIte]; rfl) ?_⟩ | refine ⟨_, hW, hK _ _ _ (by simp only [go_sem, Nat.reduceEqDiff, ↓reduceIte]; rfl) ?_⟩ | refine ⟨_, hO, hK _ _ _ (by simp only [go_sem, Nat.reduceEqDiff, ↓reduceIte]; rfl) ?_⟩); clear hK; clear K) | (with_reducible first | refine rgn_nil (by first | trivial | kernel_rfl) ?_ | refine AWP.seq ?_ | refine tX hC hP (by kernel_rfl) ?_ | refine aX hC hM hP (by kernel_rfl) ?_ | refine AWP.skip ?_ | refine AWP.label ?_ | refine AWP.exit ?_ | refine AWP.block ?_ | refine cTa ?_ | refine cFa ?_) | simp only [qS, Nat.reduceEqDiff, ↓reduceIte]))
    (refine AWP.ret ?_; refine retOk2 (by simp only [go_sem, seval, ↓reduceIte, decide_true, decide_false]; rfl) (by simp only [go_sem, seval, ↓reduceIte, decide_true, decide_false]; rfl) (by simp) ?_)
    rfl
/-- The code and the value of the order of a multiple. -/
noncomputable def omC (m : Int) (ll : List (List Int)) (n : Int) : Int := if lawB m ll = true then (if (decide (-1000000 ≤ n) && decide (n ≤ 1000000)) = true then (if prB m = true then (if ordC (mzL m (pc ll) (ll.length - 1) (varL (ll.length - 1)) n) = 0 then 0 else 4) else 5) else 2) else 1
noncomputable def omV (m : Int) (ll : List (List Int)) (n : Int) : Int := if omC m ll n = 0 then ordN (mzL m (pc ll) (ll.length - 1) (varL (ll.length - 1)) n) else 0
/-- The coefficient of Hasse. -/
noncomputable def hsC (m : Int) (ll : List (List Int)) : Int := if htC m ll = 0 then (if (ll.length : Int) ≤ m then 5 else 0) else htC m ll
noncomputable def hsV (m : Int) (ll : List (List Int)) : Int := if hsC m ll = 0 then at' (pmL m ll) m.toNat else 0
end Go.Proofs.Ytfnfdjomkohfjaa
