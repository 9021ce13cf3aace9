/-
  Laws over prime fields: where the multiple by the prime begins.
-/
import Derived.Test.YtamdpfnmclkljaaAd
import Derived.Test.YtamdpfnmclkljaaKk
import Derived.Test.YtamdpfnmclkljaaLb
namespace Go.Proofs.Ytamdpfnmclkljaa
open Go.RowKit
set_option linter.unusedSimpArgs false
set_option linter.unusedVariables false
set_option linter.unusedSectionVars false
set_option maxRecDepth 20000
-- Laws over prime fields: where the multiple by the prime begins.
theorem least {p : Nat → Prop} (h : ∃ i, p i) : ∃ i, p i ∧ ∀ j, j < i → ¬ p j := by
  obtain ⟨i, hi⟩ := h
  induction i using Nat.strongRecOn with
  | _ i ih =>
    by_cases h : ∃ j, j < i ∧ p j
    · obtain ⟨j, h1, h2⟩ := h; exact ih j h1 h2
    · exact ⟨i, hi, fun j hj hp => h ⟨j, hj, hp⟩⟩
theorem ld_cases (l : List Int) : (∀ i, at' l i = 0) ∨ ∃ i, i < l.length ∧ at' l i ≠ 0 ∧ ∀ j, j < i → at' l j = 0 := by
  by_cases h : ∃ i, at' l i ≠ 0
  · obtain ⟨i, h1, h2⟩ := least h
    right
    refine ⟨i, ?_, h1, fun j hj => Classical.not_not.1 (h2 j hj)⟩
    exact Classical.byContradiction fun e => h1 (at_out (by omega))
  · left; intro i; exact Classical.not_not.1 fun e => h ⟨i, e⟩
theorem Pl.out {m : Int} {n : Nat} {ll : List (List Int)} (h : Pl m n ll) (i j : Nat) (hij : n ≤ i + j) : pc ll i j = 0 := by
  by_cases hi : i < n
  · have := h.row i hi
    exact at_out (l := ll.getD i []) (by omega)
  · have e : ll.getD i [] = [] := by rw [List.getD_eq_getElem?_getD, List.getElem?_eq_none (by rw [h.len]; omega)]; rfl
    rw [pc, e]; rfl
theorem lw_of {m : Int} {ll : List (List Int)} (h : lawB m ll = true) : ∃ d, 1 ≤ d ∧ d ≤ 10 ∧ ll.length = d + 1 ∧ 1 < m ∧ m ≤ 10000 ∧ Pl m (d + 1) ll ∧ IsLw m (d + 1) (pc ll) := by
  have h1 := lawB_of h
  have h2 := isPl_of h1.1
  refine ⟨ll.length - 1, by omega, by omega, by omega, by omega, h2.2.1, ?_, ?_⟩
  · rw [show ll.length - 1 + 1 = ll.length by omega]; exact h2.2.2.2.2
  · rw [show ll.length - 1 + 1 = ll.length by omega]; exact h1.2
theorem isSer_yes {m : Int} {l : List Int} (h1 : 1 < m) (h2 : m ≤ 10000) (h3 : 2 ≤ l.length) (h4 : l.length ≤ 11) (h5 : ∀ x ∈ l, 0 ≤ x ∧ x < m) : isSer m l = true := by
  simp only [isSer, Bool.and_eq_true, decide_eq_true_eq, List.all_eq_true, isNum]
  exact ⟨⟨⟨by omega, h2⟩, by omega, by omega⟩, fun x hx => by have := h5 x hx; omega⟩
/-- The primes of heights. -/
def prB (m : Int) : Bool := decide (m = 2 ∨ m = 3 ∨ m = 5 ∨ m = 7)
theorem prB_of {m : Int} (h : prB m = true) : m = 2 ∨ m = 3 ∨ m = 5 ∨ m = 7 := of_decide_eq_true h
/-- N is the least place of a coefficient other than 0, and h the height; 0 and 0 where there is none. -/
def HtC (p d : Nat) (P : List Int) (N h : Nat) : Prop := (N = 0 ∧ h = 0 ∧ ∀ i, at' P i = 0) ∨ (1 ≤ h ∧ N = p ^ h ∧ N ≤ d ∧ at' P N ≠ 0 ∧ ∀ i, i < N → at' P i = 0)
theorem ht_ex {m : Int} {d : Nat} {ll : List (List Int)} (pr : m = 2 ∨ m = 3 ∨ m = 5 ∨ m = 7) (hd : 1 ≤ d) (hl : Pl m (d + 1) ll) (hw : IsLw m (d + 1) (pc ll)) : ∃ x : Nat × Nat, HtC m.toNat d (mzL m (pc ll) d (varL d) m) x.1 x.2 := by
  have e : mzL m (pc ll) d (varL d) m = muL m (pc ll) d (zrL d) (varL d) m.toNat := if_neg (by omega)
  have f := mzL_facts (m := m) (by omega) (pc ll) d (varL d) m
  rcases ld_cases (mzL m (pc ll) d (varL d) m) with h | ⟨N, h1, h2, h3⟩
  · exact ⟨(0, 0), .inl ⟨rfl, rfl, h⟩⟩
  · have hb := at_bound f.2 (by omega) N
    obtain ⟨h, k1, k2⟩ := height_lead pr hd (fun i j hij => hl.out i j (by omega)) hw (N := N) (by omega) e h3 (by rw [Int.emod_eq_of_lt hb.1 hb.2]; exact h2)
    exact ⟨(N, h), .inr ⟨k1, k2, by simp only; omega, h2, h3⟩⟩
def pmL (m : Int) (ll : List (List Int)) : List Int := mzL m (pc ll) (ll.length - 1) (varL (ll.length - 1)) m
noncomputable def htX (m : Int) (ll : List (List Int)) : Nat × Nat := @dite _ (∃ x : Nat × Nat, HtC m.toNat (ll.length - 1) (pmL m ll) x.1 x.2) (Classical.propDecidable _) (fun h => Classical.choose h) (fun _ => (0, 0))
theorem htX_ok {m : Int} {ll : List (List Int)} (h : lawB m ll = true) (hp : prB m = true) : HtC m.toNat (ll.length - 1) (pmL m ll) (htX m ll).1 (htX m ll).2 := by
  obtain ⟨d, h1, h2, h3, h4, h5, h6, h7⟩ := lw_of h
  have hx := ht_ex (prB_of hp) h1 h6 h7
  have e : ll.length - 1 = d := by omega
  have hy : ∃ x : Nat × Nat, HtC m.toNat (ll.length - 1) (pmL m ll) x.1 x.2 := by unfold pmL; rw [e]; exact hx
  have e2 : htX m ll = Classical.choose hy := dif_pos hy
  rw [e2]
  exact Classical.choose_spec hy
theorem ord_none {l : List Int} (h : ∀ i, at' l i = 0) : idxOf (fun x => x != 0) l = -1 := idxOf_none fun j _ => by
  have := h j
  unfold at' at this
  rw [this]; rfl
theorem ord_some {l : List Int} {i : Nat} (h1 : i < l.length) (h2 : at' l i ≠ 0) (h3 : ∀ j, j < i → at' l j = 0) : idxOf (fun x => x != 0) l = i := idxOf_some h1 (by
  unfold at' at h2
  simpa using h2) fun j hj => by
  have := h3 j hj
  unfold at' at this
  rw [this]; rfl
/-- The least place of a coefficient other than 0, or 0. -/
def ordN (l : List Int) : Int := if idxOf (fun x => x != 0) l < 0 then 0 else idxOf (fun x => x != 0) l
def ordC (l : List Int) : Int := if idxOf (fun x => x != 0) l < 0 then 5 else 0
theorem ht_ord {p d : Nat} {P : List Int} {N h : Nat} (hP1 : P.length = d + 1) (H : HtC p d P N h) : ordN P = N := by
  rcases H with ⟨rfl, _, h1⟩ | ⟨_, _, h1, h2, h3⟩
  · rw [ordN, ord_none h1]; rfl
  · rw [ordN, ord_some (by omega) h2 h3, if_neg (by omega)]
end Go.Proofs.Ytamdpfnmclkljaa
