/-
  Tables with two indices; products of planes. No program.
-/
import Derived.Test.YtapdekacpecgiaaGreatPa
import Derived.Test.YtapdekacpecgiaaGreatLa
namespace Go.Proofs.YtapdekacpecgiaaGreat
open Go.RowKit
set_option linter.unusedSimpArgs false
set_option linter.unusedVariables false
set_option linter.unusedSectionVars false
set_option maxRecDepth 20000
-- Tables with two indices; products of planes. No program.
def pc (ll : List (List Int)) (i j : Nat) : Int := at' (ll.getD i []) j
def tabR (n k : Nat) (f : Nat → Nat → Int) : List (List Int) := (List.range k).map (fun i => tab (n - i) (f i))
def tab2 (n : Nat) (f : Nat → Nat → Int) : List (List Int) := tabR n n f
theorem tabR_length (n k : Nat) (f : Nat → Nat → Int) : (tabR n k f).length = k := by simp [tabR]
theorem tab2_length (n : Nat) (f : Nat → Nat → Int) : (tab2 n f).length = n := tabR_length n n f
theorem tabR_zero (n : Nat) (f : Nat → Nat → Int) : tabR n 0 f = [] := rfl
theorem tabR_succ (n k : Nat) (f : Nat → Nat → Int) : tabR n k f ++ [tab (n - k) (f k)] = tabR n (k + 1) f := by simp [tabR, List.range_succ]
theorem tab2_row {n i : Nat} {f : Nat → Nat → Int} (h : i < n) : (tab2 n f).getD i [] = tab (n - i) (f i) := by simp [tab2, tabR, List.getD_eq_getElem?_getD, h]
theorem pc_tab2 {n i j : Nat} {f : Nat → Nat → Int} (h : i + j < n) : pc (tab2 n f) i j = f i j := by
  rw [pc, tab2_row (by omega), at_tab (by omega)]
theorem pc_out {n i j : Nat} {f : Nat → Nat → Int} (h : n ≤ i + j) : pc (tab2 n f) i j = 0 := by
  by_cases hi : i < n
  · rw [pc, tab2_row hi]; exact tab_getD_out (by omega)
  · rw [pc, List.getD_eq_getElem?_getD, List.getElem?_eq_none (by rw [tab2_length]; omega)]; rfl
theorem tab2_congr {n : Nat} {f g : Nat → Nat → Int} (h : ∀ i j, i + j < n → f i j = g i j) : tab2 n f = tab2 n g := by
  apply List.map_congr_left
  intro i hi
  exact tab_congr fun j hj => h i j (by omega)
theorem tab2_set {n i j : Nat} {f g : Nat → Nat → Int} {v : Int} (h : ∀ a b, a + b < n → (if a = i ∧ b = j then v else f a b) = g a b) : (tab2 n f).set i ((tab (n - i) (f i)).set j v) = tab2 n g := by
  apply List.ext_getElem?
  intro a
  by_cases ha : a < n
  · rw [List.getElem?_set]
    by_cases e : i = a
    · subst e
      rw [if_pos rfl, if_pos (by rw [tab2_length]; exact ha)]
      simp only [tab2, tabR, List.getElem?_map, List.getElem?_range ha, Option.map_some]
      rw [tab_set' (g := g i) (fun b hb => ?_)]
      have := h i b (by omega)
      simpa using this
    · rw [if_neg e]
      simp only [tab2, tabR, List.getElem?_map, List.getElem?_range ha, Option.map_some]
      rw [tab_congr (fun b hb => ?_)]
      have := h a b (by omega)
      rw [if_neg (by omega)] at this
      exact this
  · rw [List.getElem?_eq_none (by rw [List.length_set, tab2_length]; omega), List.getElem?_eq_none (by rw [tab2_length]; omega)]
structure Pl (m : Int) (n : Nat) (ll : List (List Int)) : Prop where
  len : ll.length = n
  row : ∀ i, i < n → (ll.getD i []).length = n - i
  num : ∀ i j, 0 ≤ pc ll i j ∧ pc ll i j < m
theorem Pl.eq {m : Int} {n : Nat} {ll : List (List Int)} (h : Pl m n ll) : ll = tab2 n (pc ll) := by
  apply List.ext_getElem?
  intro i
  by_cases hi : i < n
  · have hl : i < ll.length := by rw [h.len]; exact hi
    have hr := h.row i hi
    simp only [tab2, tabR, List.getElem?_map, List.getElem?_range hi, Option.map_some]
    have e : ll[i]? = some (ll.getD i []) := by rw [List.getD_eq_getElem?_getD, List.getElem?_eq_getElem hl]; rfl
    rw [e, ← hr]
    exact congrArg some (tab_self _).symm
  · rw [List.getElem?_eq_none (by rw [h.len]; omega), List.getElem?_eq_none (by rw [tab2_length]; omega)]
theorem Pl.tab2 {m : Int} {n : Nat} {f : Nat → Nat → Int} (hm : 0 < m) (h : ∀ i j, i + j < n → 0 ≤ f i j ∧ f i j < m) : Pl m n (tab2 n f) :=
  ⟨tab2_length n f, fun i hi => by rw [tab2_row hi, tab_length], fun i j => by
    by_cases hij : i + j < n
    · rw [pc_tab2 hij]; exact h i j hij
    · rw [pc_out (by omega)]; omega⟩
theorem Pl.rowNum {m : Int} {n : Nat} {ll : List (List Int)} (h : Pl m n ll) (i : Nat) : ∀ x ∈ ll.getD i [], 0 ≤ x ∧ x < m := by
  intro x hx
  obtain ⟨j, hj, rfl⟩ := List.getElem_of_mem hx
  have := h.num i j
  rwa [pc, at', getD_at _ j hj] at this
def cv2 (a b : Nat → Nat → Int) (u v : Nat) : Int := sm (u + 1) (fun i => sm (v + 1) (fun j => a i j * b (u - i) (v - j)))
def qI (a b : Nat → Nat → Int) (i u v : Nat) : Int := sm i (fun i' => if i' ≤ u then sm (v + 1) (fun j' => a i' j' * b (u - i') (v - j')) else 0)
def qJ (a b : Nat → Nat → Int) (i j u v : Nat) : Int := qI a b i u v + (if i ≤ u then sm j (fun j' => if j' ≤ v then a i j' * b (u - i) (v - j') else 0) else 0)
theorem qJ_zero (a b : Nat → Nat → Int) (i u v : Nat) : qJ a b i 0 u v = qI a b i u v := by simp [qJ, sm]
theorem qI_zero (a b : Nat → Nat → Int) (u v : Nat) : qI a b 0 u v = 0 := rfl
theorem qJ_skip {a b : Nat → Nat → Int} {i j u v : Nat} (h : a i j = 0 ∨ v < j ∨ u < i) : qJ a b i (j + 1) u v = qJ a b i j u v := by
  unfold qJ
  by_cases h1 : i ≤ u
  · rw [if_pos h1, if_pos h1]
    congr 1
    rw [show sm (j + 1) (fun j' => if j' ≤ v then a i j' * b (u - i) (v - j') else 0) = sm j (fun j' => if j' ≤ v then a i j' * b (u - i) (v - j') else 0) + (if j ≤ v then a i j * b (u - i) (v - j) else 0) from rfl]
    rcases h with h2 | h2 | h2
    · rw [h2]; simp
    · rw [if_neg (by omega)]; omega
    · omega
  · rw [if_neg h1, if_neg h1]
theorem qJ_add {a b : Nat → Nat → Int} {m : Int} {i j k l : Nat} : (qJ a b i j (i + k) (j + l) % m + a i j * b k l) % m = qJ a b i (j + 1) (i + k) (j + l) % m := by
  have e : qJ a b i (j + 1) (i + k) (j + l) = qJ a b i j (i + k) (j + l) + a i j * b k l := by
    unfold qJ
    rw [if_pos (by omega), if_pos (by omega)]
    rw [show sm (j + 1) (fun j' => if j' ≤ j + l then a i j' * b (i + k - i) (j + l - j') else 0) = sm j (fun j' => if j' ≤ j + l then a i j' * b (i + k - i) (j + l - j') else 0) + (if j ≤ j + l then a i j * b (i + k - i) (j + l - j) else 0) from rfl]
    rw [if_pos (by omega), Nat.add_sub_cancel_left, Nat.add_sub_cancel_left]
    omega
  rw [e, Int.emod_add_emod]
theorem qJ_row {a b : Nat → Nat → Int} {i u v q : Nat} (h : v < q) : qJ a b i q u v = qI a b (i + 1) u v := by
  unfold qJ
  rw [show qI a b (i + 1) u v = qI a b i u v + (if i ≤ u then sm (v + 1) (fun j' => a i j' * b (u - i) (v - j')) else 0) from rfl]
  congr 1
  split
  · rw [sm_tail (n := q) (c := v + 1) (by omega) (fun j h1 h2 => by rw [if_neg (by omega)])]
    exact sm_congr fun j hj => by rw [if_pos (by omega)]
  · rfl
theorem qI_end {a b : Nat → Nat → Int} {n u v : Nat} (h : u < n) : qI a b n u v = cv2 a b u v := by
  unfold qI cv2
  rw [sm_tail (n := n) (c := u + 1) (by omega) (fun j h1 h2 => by rw [if_neg (by omega)])]
  exact sm_congr fun j hj => by rw [if_pos (by omega)]
def qL (a b : Nat → Nat → Int) (m : Int) (i j k l u v : Nat) : Int := if (i ≤ u ∧ u < i + k ∧ j ≤ v) ∨ (u = i + k ∧ j ≤ v ∧ v < j + l) then qJ a b i (j + 1) u v % m else qJ a b i j u v % m
theorem qL_start (a b : Nat → Nat → Int) (m : Int) (i j u v : Nat) : qL a b m i j 0 0 u v = qJ a b i j u v % m := by
  unfold qL; rw [if_neg (by omega)]
theorem qL_at (a b : Nat → Nat → Int) (m : Int) (i j k l : Nat) : qL a b m i j k l (i + k) (j + l) = qJ a b i j (i + k) (j + l) % m := by
  unfold qL; rw [if_neg (by omega)]
theorem qL_set (a b : Nat → Nat → Int) (m : Int) (i j k l u v : Nat) : (if u = i + k ∧ v = j + l then qJ a b i (j + 1) (i + k) (j + l) % m else qL a b m i j k l u v) = qL a b m i j k (l + 1) u v := by
  unfold qL
  by_cases h : u = i + k ∧ v = j + l
  · rw [if_pos h, if_pos (by omega), h.1, h.2]
  · rw [if_neg h]
    by_cases h2 : (i ≤ u ∧ u < i + k ∧ j ≤ v) ∨ (u = i + k ∧ j ≤ v ∧ v < j + l)
    · rw [if_pos h2, if_pos (by omega)]
    · rw [if_neg h2, if_neg (by omega)]
theorem qL_row {a b : Nat → Nat → Int} {m : Int} {n i j k l u v : Nat} (h : n ≤ i + j + k + l) (huv : u + v < n) : qL a b m i j k l u v = qL a b m i j (k + 1) 0 u v := by
  unfold qL
  by_cases h2 : (i ≤ u ∧ u < i + k ∧ j ≤ v) ∨ (u = i + k ∧ j ≤ v ∧ v < j + l)
  · rw [if_pos h2, if_pos (by omega)]
  · rw [if_neg h2, if_neg (by omega)]
theorem qL_end {a b : Nat → Nat → Int} {m : Int} {n i j k u v : Nat} (h : n ≤ i + j + k) (huv : u + v < n) : qL a b m i j k 0 u v = qJ a b i (j + 1) u v % m := by
  unfold qL
  by_cases h2 : (i ≤ u ∧ u < i + k ∧ j ≤ v) ∨ (u = i + k ∧ j ≤ v ∧ v < j + 0)
  · rw [if_pos h2]
  · rw [if_neg h2, qJ_skip (by omega)]
def pmul (m : Int) (n : Nat) (a b : Nat → Nat → Int) : List (List Int) := tab2 n (fun u v => cv2 a b u v % m)
theorem pmul_pl {m : Int} (hm : 0 < m) (n : Nat) (a b : Nat → Nat → Int) : Pl m n (pmul m n a b) := Pl.tab2 hm fun _ _ _ => emod_b _ m hm
theorem pmul_end {m : Int} {n : Nat} {a b : Nat → Nat → Int} : tab2 n (fun u v => qJ a b n 0 u v % m) = pmul m n a b := tab2_congr fun u v h => by rw [qJ_zero, qI_end (by omega)]
theorem qJ_next {m : Int} {n i q : Nat} {a b : Nat → Nat → Int} (h : n ≤ i + q) : tab2 n (fun u v => qJ a b i q u v % m) = tab2 n (fun u v => qJ a b (i + 1) 0 u v % m) := tab2_congr fun u v h2 => by
  rw [qJ_zero]
  by_cases hu : i ≤ u
  · rw [qJ_row (by omega)]
  · have e1 : qJ a b i q u v = qI a b i u v := by unfold qJ; rw [if_neg hu]; omega
    have e2 : qI a b (i + 1) u v = qI a b i u v := by
      rw [show qI a b (i + 1) u v = qI a b i u v + (if i ≤ u then sm (v + 1) (fun j' => a i j' * b (u - i) (v - j')) else 0) from rfl, if_neg hu]; omega
    rw [e1, e2]
end Go.Proofs.YtapdekacpecgiaaGreat
