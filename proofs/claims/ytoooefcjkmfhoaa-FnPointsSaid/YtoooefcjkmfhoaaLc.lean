/-
  The laws' helpers.
-/
import Derived.Test.YtoooefcjkmfhoaaLa
namespace Go.Proofs.Ytoooefcjkmfhoaa
open Go.RowKit
set_option linter.unusedSimpArgs false
set_option linter.unusedVariables false
set_option linter.unusedSectionVars false
set_option maxRecDepth 20000
-- The laws' helpers.
theorem intL_get (c : List Int) (i : Nat) (h : i < c.length) : (intL c)[i]? = some (.int .i64 (c.getD i 0)) := by
  simp [intL, List.getD_eq_getElem?_getD, h]
theorem sizeL_intL : ∀ (c : List Int), T.sizeL (intL c) = c.length
  | [] => rfl
  | x :: c => by
    have := sizeL_intL c
    simp only [intL, List.map_cons, T.sizeL, T.size, List.length_cons] at this ⊢
    omega
theorem sizeL_take (c : List Int) (i : Nat) (h : i ≤ c.length) : T.sizeL ((intL c).take i) = i := by
  rw [show (intL c).take i = intL (c.take i) by simp [intL], sizeL_intL]
  simp [h]
theorem intL_modify (c : List Int) (i : Nat) (v : Int) : (intL c).modify i (fun _ => .int .i64 v) = intL (c.set i v) := by
  unfold intL
  rw [List.map_set]
  apply List.ext_getElem?
  intro j
  rw [List.getElem?_modify, List.getElem?_set]
  by_cases e : i = j
  · subst e
    by_cases h : i < c.length <;> simp [h]
  · simp [e]
def cpy (l : List Int) (i : Nat) : List Int := l.take i ++ List.replicate (l.length - i) 0
theorem cpy_length (l : List Int) (i : Nat) (h : i ≤ l.length) : (cpy l i).length = l.length := by
  simp [cpy]; omega
theorem cpy_set (l : List Int) (i : Nat) (h : i < l.length) : (cpy l i).set i (l.getD i 0) = cpy l (i + 1) := by
  apply List.ext_getElem
  · simp [cpy]; omega
  · intro j h1 h2
    rw [List.getElem_set]
    simp only [cpy, List.getElem_append, List.length_take, List.getElem_take, List.getElem_replicate, getD_at l i h]
    split
    · rename_i e; subst e; rw [dif_pos (by omega)]
    · split <;> split <;> first | rfl | omega
theorem intL_replicate (n : Nat) : List.replicate n (T.int .i64 0) = intL (List.replicate n 0) := by simp [intL]
def szF (n : Nat) (left : Int) : Int := if left - n < 0 then -1 else left - n
theorem szF_neg {n : Nat} {left : Int} (h : szF n left < 0) (h1 : 0 ≤ left) : szF n left = -1 := by
  unfold szF at *
  split at h
  · rename_i g; rw [if_pos g]
  · omega
theorem szF_bound {n : Nat} {left : Int} (h : ¬ szF n left < 0) (h2 : left ≤ 1048576) : n ≤ 1048576 ∧ szF n left ≤ 1048576 ∧ 0 ≤ szF n left := by
  unfold szF at *
  split at h
  · omega
  · rename_i g; rw [if_neg g]; exact ⟨by omega, by omega, by omega⟩
end Go.Proofs.Ytoooefcjkmfhoaa
