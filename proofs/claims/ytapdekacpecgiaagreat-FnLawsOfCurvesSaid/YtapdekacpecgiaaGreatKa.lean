import Derived.Test.YtapdekacpecgiaaGreatPa
import Derived.Test.YtapdekacpecgiaaGreatLa
namespace Go.Proofs.YtapdekacpecgiaaGreat
open Go.RowKit
set_option linter.unusedSimpArgs false
set_option linter.unusedVariables false
set_option linter.unusedSectionVars false
set_option maxRecDepth 20000
set_option maxHeartbeats 1000000
def pc (ll : List (List Int)) (i j : Nat) : Int := at' (ll.getD i []) j
def tabR (n k : Nat) (f : Nat → Nat → Int) : List (List Int) := (List.range k).map (fun i => tab (n - i) (f i))
def tab2 (n : Nat) (f : Nat → Nat → Int) : List (List Int) := tabR n n f
theorem E2 (n k : Nat) (f : Nat → Nat → Int) : (tabR n k f).length = k := by simp [tabR]
theorem Am (n : Nat) (f : Nat → Nat → Int) : (tab2 n f).length = n := E2 n n f
theorem Lg (n : Nat) (f : Nat → Nat → Int) : tabR n 0 f = [] := rfl
theorem Gm (n k : Nat) (f : Nat → Nat → Int) : tabR n k f ++ [tab (n - k) (f k)] = tabR n (k + 1) f := by simp [tabR, List.range_succ]
theorem Bu {n i : Nat} {f : Nat → Nat → Int} (h : i < n) : (tab2 n f).getD i [] = tab (n - i) (f i) := by simp [tab2, tabR, List.getD_eq_getElem?_getD, h]
theorem Bn {n i j : Nat} {f : Nat → Nat → Int} (h : i + j < n) : pc (tab2 n f) i j = f i j := by
 rw [pc, Bu (by omega), A4 (by omega)]
theorem Th {n i j : Nat} {f : Nat → Nat → Int} (h : n ≤ i + j) : pc (tab2 n f) i j = 0 := by
 by_cases hi : i < n
 ·rw [pc, Bu hi]; exact R9 (by omega)
 ·rw [pc, List.getD_eq_getElem?_getD, List.getElem?_eq_none (by rw [Am]; omega)]; rfl
theorem Av {n : Nat} {f g : Nat → Nat → Int} (h : ∀ i j, i + j < n → f i j = g i j) : tab2 n f = tab2 n g := by
 apply List.map_congr_left
 intro i hi
 exact Bf fun j hj => h i j (by omega)
theorem D8 {n i j : Nat} {f g : Nat → Nat → Int} {v : Int} (h : ∀ a b, a + b < n → (if a = i ∧ b = j then v else f a b) = g a b) : (tab2 n f).set i ((tab (n - i) (f i)).set j v) = tab2 n g := by
 apply List.ext_getElem?
 intro a
 by_cases ha : a < n
 ·rw [List.getElem?_set]
  by_cases e : i = a
  ·subst e
   rw [if_pos rfl, if_pos (by rw [Am]; exact ha)]
   simp only [tab2, tabR, List.getElem?_map, List.getElem?_range ha, Option.map_some]
   rw [Dt (g := g i) (fun b hb => ?_)]
   have := h i b (by omega)
   simpa using this
  ·rw [if_neg e]
   simp only [tab2, tabR, List.getElem?_map, List.getElem?_range ha, Option.map_some]
   rw [Bf (fun b hb => ?_)]
   have := h a b (by omega)
   rw [if_neg (by omega)] at this
   exact this
 ·rw [List.getElem?_eq_none (by rw [List.length_set, Am]; omega), List.getElem?_eq_none (by rw [Am]; omega)]
structure Pl (m : Int) (n : Nat) (ll : List (List Int)) : Prop where
 len : ll.length = n
 row : ∀ i, i < n → (ll.getD i []).length = n - i
 num : ∀ i j, 0 ≤ pc ll i j ∧ pc ll i j < m
theorem Pl.eq {m : Int} {n : Nat} {ll : List (List Int)} (h : Pl m n ll) : ll = tab2 n (pc ll) := by
 apply List.ext_getElem?
 intro i
 by_cases hi : i < n
 ·have hl : i < ll.length := by rw [h.len]; exact hi
  have hr := h.row i hi
  simp only [tab2, tabR, List.getElem?_map, List.getElem?_range hi, Option.map_some]
  have e : ll[i]? = some (ll.getD i []) := by rw [List.getD_eq_getElem?_getD, List.getElem?_eq_getElem hl]; rfl
  rw [e, ← hr]
  exact congrArg some (Jy _).symm
 ·rw [List.getElem?_eq_none (by rw [h.len]; omega), List.getElem?_eq_none (by rw [Am]; omega)]
theorem Pl.tab2 {m : Int} {n : Nat} {f : Nat → Nat → Int} (hm : 0 < m) (h : ∀ i j, i + j < n → 0 ≤ f i j ∧ f i j < m) : Pl m n (tab2 n f) :=
 ⟨Am n f, fun i hi => by rw [Bu hi, Ad], fun i j => by
  by_cases hij : i + j < n
  ·rw [Bn hij]; exact h i j hij
  ·rw [Th (by omega)]; omega⟩
theorem Pl.rowNum {m : Int} {n : Nat} {ll : List (List Int)} (h : Pl m n ll) (i : Nat) : ∀ x ∈ ll.getD i [], 0 ≤ x ∧ x < m := by
 intro x hx
 obtain ⟨j, hj, rfl⟩ := List.getElem_of_mem hx
 have := h.num i j
 rwa [pc, at', Hc _ j hj] at this
def cv2 (a b : Nat → Nat → Int) (u v : Nat) : Int := sm (u + 1) (fun i => sm (v + 1) (fun j => a i j * b (u - i) (v - j)))
def qI (a b : Nat → Nat → Int) (i u v : Nat) : Int := sm i (fun i' => if i' ≤ u then sm (v + 1) (fun j' => a i' j' * b (u - i') (v - j')) else 0)
def qJ (a b : Nat → Nat → Int) (i j u v : Nat) : Int := qI a b i u v + (if i ≤ u then sm j (fun j' => if j' ≤ v then a i j' * b (u - i) (v - j') else 0) else 0)
theorem Mm (a b : Nat → Nat → Int) (i u v : Nat) : qJ a b i 0 u v = qI a b i u v := by simp [qJ, sm]
theorem Xa (a b : Nat → Nat → Int) (u v : Nat) : qI a b 0 u v = 0 := rfl
theorem Pw {a b : Nat → Nat → Int} {i j u v : Nat} (h : a i j = 0 ∨ v < j ∨ u < i) : qJ a b i (j + 1) u v = qJ a b i j u v := by
 unfold qJ
 by_cases h1 : i ≤ u
 ·rw [if_pos h1, if_pos h1]
  congr 1
  rw [show sm (j + 1) (fun j' => if j' ≤ v then a i j' * b (u - i) (v - j') else 0) = sm j (fun j' => if j' ≤ v then a i j' * b (u - i) (v - j') else 0) + (if j ≤ v then a i j * b (u - i) (v - j) else 0) from rfl]
  rcases h with h2 | h2 | h2
  ·rw [h2]; simp
  ·rw [if_neg (by omega)]; omega
  ·omega
 ·rw [if_neg h1, if_neg h1]
theorem Ab7 {a b : Nat → Nat → Int} {m : Int} {i j k l : Nat} : (qJ a b i j (i + k) (j + l) % m + a i j * b k l) % m = qJ a b i (j + 1) (i + k) (j + l) % m := by
 have e : qJ a b i (j + 1) (i + k) (j + l) = qJ a b i j (i + k) (j + l) + a i j * b k l := by
  unfold qJ
  rw [if_pos (by omega), if_pos (by omega)]
  rw [show sm (j + 1) (fun j' => if j' ≤ j + l then a i j' * b (i + k - i) (j + l - j') else 0) = sm j (fun j' => if j' ≤ j + l then a i j' * b (i + k - i) (j + l - j') else 0) + (if j ≤ j + l then a i j * b (i + k - i) (j + l - j) else 0) from rfl]
  rw [if_pos (by omega), Nat.add_sub_cancel_left, Nat.add_sub_cancel_left]
  omega
 rw [e, Int.emod_add_emod]
theorem Aip {a b : Nat → Nat → Int} {i u v q : Nat} (h : v < q) : qJ a b i q u v = qI a b (i + 1) u v := by
 unfold qJ
 rw [show qI a b (i + 1) u v = qI a b i u v + (if i ≤ u then sm (v + 1) (fun j' => a i j' * b (u - i) (v - j')) else 0) from rfl]
 congr 1
 split
 ·rw [Cw (n := q) (c := v + 1) (by omega) (fun j h1 h2 => by rw [if_neg (by omega)])]
  exact Ax fun j hj => by rw [if_pos (by omega)]
 ·rfl
theorem Aji {a b : Nat → Nat → Int} {n u v : Nat} (h : u < n) : qI a b n u v = cv2 a b u v := by
 unfold qI cv2
 rw [Cw (n := n) (c := u + 1) (by omega) (fun j h1 h2 => by rw [if_neg (by omega)])]
 exact Ax fun j hj => by rw [if_pos (by omega)]
def qL (a b : Nat → Nat → Int) (m : Int) (i j k l u v : Nat) : Int := if (i ≤ u ∧ u < i + k ∧ j ≤ v) ∨ (u = i + k ∧ j ≤ v ∧ v < j + l) then qJ a b i (j + 1) u v % m else qJ a b i j u v % m
theorem Tu (a b : Nat → Nat → Int) (m : Int) (i j u v : Nat) : qL a b m i j 0 0 u v = qJ a b i j u v % m := by
 unfold qL; rw [if_neg (by omega)]
theorem Agw (a b : Nat → Nat → Int) (m : Int) (i j k l : Nat) : qL a b m i j k l (i + k) (j + l) = qJ a b i j (i + k) (j + l) % m := by
 unfold qL; rw [if_neg (by omega)]
theorem Ads (a b : Nat → Nat → Int) (m : Int) (i j k l u v : Nat) : (if u = i + k ∧ v = j + l then qJ a b i (j + 1) (i + k) (j + l) % m else qL a b m i j k l u v) = qL a b m i j k (l + 1) u v := by
 unfold qL
 by_cases h : u = i + k ∧ v = j + l
 ·rw [if_pos h, if_pos (by omega), h.1, h.2]
 ·rw [if_neg h]
  by_cases h2 : (i ≤ u ∧ u < i + k ∧ j ≤ v) ∨ (u = i + k ∧ j ≤ v ∧ v < j + l)
  ·rw [if_pos h2, if_pos (by omega)]
  ·rw [if_neg h2, if_neg (by omega)]
theorem Adl {a b : Nat → Nat → Int} {m : Int} {n i j k l u v : Nat} (h : n ≤ i + j + k + l) (huv : u + v < n) : qL a b m i j k l u v = qL a b m i j (k + 1) 0 u v := by
 unfold qL
 by_cases h2 : (i ≤ u ∧ u < i + k ∧ j ≤ v) ∨ (u = i + k ∧ j ≤ v ∧ v < j + l)
 ·rw [if_pos h2, if_pos (by omega)]
 ·rw [if_neg h2, if_neg (by omega)]
theorem Acf {a b : Nat → Nat → Int} {m : Int} {n i j k u v : Nat} (h : n ≤ i + j + k) (huv : u + v < n) : qL a b m i j k 0 u v = qJ a b i (j + 1) u v % m := by
 unfold qL
 by_cases h2 : (i ≤ u ∧ u < i + k ∧ j ≤ v) ∨ (u = i + k ∧ j ≤ v ∧ v < j + 0)
 ·rw [if_pos h2]
 ·rw [if_neg h2, Pw (by omega)]
def pmul (m : Int) (n : Nat) (a b : Nat → Nat → Int) : List (List Int) := tab2 n (fun u v => cv2 a b u v % m)
theorem Eq {m : Int} (hm : 0 < m) (n : Nat) (a b : Nat → Nat → Int) : Pl m n (pmul m n a b) := Pl.tab2 hm fun _ _ _ => As _ m hm
theorem Sq {m : Int} {n : Nat} {a b : Nat → Nat → Int} : tab2 n (fun u v => qJ a b n 0 u v % m) = pmul m n a b := Av fun u v h => by rw [Mm, Aji (by omega)]
theorem Xb {m : Int} {n i q : Nat} {a b : Nat → Nat → Int} (h : n ≤ i + q) : tab2 n (fun u v => qJ a b i q u v % m) = tab2 n (fun u v => qJ a b (i + 1) 0 u v % m) := Av fun u v h2 => by
 rw [Mm]
 by_cases hu : i ≤ u
 ·rw [Aip (by omega)]
 ·have e1 : qJ a b i q u v = qI a b i u v := by unfold qJ; rw [if_neg hu]; omega
  have e2 : qI a b (i + 1) u v = qI a b i u v := by
   rw [show qI a b (i + 1) u v = qI a b i u v + (if i ≤ u then sm (v + 1) (fun j' => a i j' * b (u - i) (v - j')) else 0) from rfl, if_neg hu]; omega
  rw [e1, e2]
end Go.Proofs.YtapdekacpecgiaaGreat
