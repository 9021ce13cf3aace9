/-
  Rows of rows.
-/
import Derived.Test.YtapdekacpecgiaaGreatTac
namespace Go.Proofs.YtapdekacpecgiaaGreat
open Go.RowKit
set_option linter.unusedSimpArgs false
set_option linter.unusedVariables false
set_option linter.unusedSectionVars false
set_option maxRecDepth 20000
-- Rows of rows.
def rowsF (ll : List (List Int)) : List T := ll.map fun l => .sl false 2 (intL l)
def rowsO (ll : List (List Int)) : List T := ll.map fun l => .sl true 2 (intL l)
theorem rowsF_length (ll : List (List Int)) : (rowsF ll).length = ll.length := by simp [rowsF]
theorem rowsO_length (ll : List (List Int)) : (rowsO ll).length = ll.length := by simp [rowsO]
theorem rowsF_getD (ll : List (List Int)) (i : Nat) (h : i < ll.length) : (rowsF ll).getD i .any = .sl false 2 (intL (ll.getD i [])) := by
  simp [rowsF, List.getD_eq_getElem?_getD, h]
theorem rowsF_pure : ∀ (ll : List (List Int)), T.pureL (rowsF ll) = true
  | [] => rfl
  | x :: l => by have := rowsF_pure l; simp only [rowsF, List.map_cons, T.pureL, Tpure_slf, intL_pure, Bool.true_and]; exact this
theorem rowsF_refFree : ∀ (ll : List (List Int)), T.refFreeL (rowsF ll) = true
  | [] => rfl
  | x :: l => by have := rowsF_refFree l; simp only [rowsF, List.map_cons, T.refFreeL, TrefFree_slf, intL_refFree, Bool.true_and]; exact this
theorem rowsF_noOwn : ∀ (ll : List (List Int)), T.noOwnL (rowsF ll) = true
  | [] => rfl
  | x :: l => by have := rowsF_noOwn l; simp only [rowsF, List.map_cons, T.noOwnL, TnoOwn_slf, Bool.true_and]; exact this
theorem rowsF_freeze : ∀ (ll : List (List Int)), T.freezeL (rowsF ll) = rowsF ll
  | [] => rfl
  | x :: l => by have := rowsF_freeze l; simp only [rowsF, List.map_cons, T.freezeL, T.freeze]; rw [show l.map (fun l => T.sl false 2 (intL l)) = rowsF l from rfl, this]
theorem rowsO_freeze : ∀ (ll : List (List Int)), T.freezeL (rowsO ll) = rowsF ll
  | [] => rfl
  | x :: l => by have := rowsO_freeze l; simp only [rowsO, rowsF, List.map_cons, T.freezeL, T.freeze, intL_freeze]; rw [show l.map (fun l => T.sl true 2 (intL l)) = rowsO l from rfl, this]; rfl
theorem rowsO_refFree : ∀ (ll : List (List Int)), T.refFreeL (rowsO ll) = true
  | [] => rfl
  | x :: l => by have := rowsO_refFree l; simp only [rowsO, List.map_cons, T.refFreeL, TrefFree_slt, intL_refFree, Bool.true_and]; exact this
theorem rowsO_noF : ∀ (ll : List (List Int)), T.noFL (rowsO ll) = true
  | [] => rfl
  | x :: l => by have := rowsO_noF l; simp only [rowsO, List.map_cons, T.noFL, T.noF, intL_noF, Bool.true_and]; exact this
attribute [go_sem] rowsO_noF rowsF_pure rowsF_refFree rowsF_noOwn rowsF_freeze rowsO_freeze rowsF_length rowsO_length
end Go.Proofs.YtapdekacpecgiaaGreat
