import Derived.Test.YtapdekacpecgiaaGreatTac
namespace Go.Proofs.YtapdekacpecgiaaGreat
open Go.RowKit
set_option linter.unusedSimpArgs false
set_option linter.unusedVariables false
set_option linter.unusedSectionVars false
set_option maxRecDepth 20000
set_option maxHeartbeats 1000000
def rowsF (ll : List (List Int)) : List T := ll.map fun l => .sl false 2 (intL l)
def rowsO (ll : List (List Int)) : List T := ll.map fun l => .sl true 2 (intL l)
theorem Ac (ll : List (List Int)) : (rowsF ll).length = ll.length := by simp [rowsF]
theorem Ai (ll : List (List Int)) : (rowsO ll).length = ll.length := by simp [rowsO]
theorem Aj (ll : List (List Int)) (i : Nat) (h : i < ll.length) : (rowsF ll).getD i .any = .sl false 2 (intL (ll.getD i [])) := by
 simp [rowsF, List.getD_eq_getElem?_getD, h]
theorem Cn : ∀ (ll : List (List Int)), T.pureL (rowsF ll) = true
 | [] => rfl
 | x :: l => by have := Cn l; simp only [rowsF, List.map_cons, T.pureL, Qr, Fb, Bool.true_and]; exact this
theorem Gx : ∀ (ll : List (List Int)), T.refFreeL (rowsF ll) = true
 | [] => rfl
 | x :: l => by have := Gx l; simp only [rowsF, List.map_cons, T.refFreeL, Mc, El, Bool.true_and]; exact this
theorem M3 : ∀ (ll : List (List Int)), T.noOwnL (rowsF ll) = true
 | [] => rfl
 | x :: l => by have := M3 l; simp only [rowsF, List.map_cons, T.noOwnL, O5, Bool.true_and]; exact this
theorem Fk : ∀ (ll : List (List Int)), T.freezeL (rowsF ll) = rowsF ll
 | [] => rfl
 | x :: l => by have := Fk l; simp only [rowsF, List.map_cons, T.freezeL, T.freeze]; rw [show l.map (fun l => T.sl false 2 (intL l)) = rowsF l from rfl, this]
theorem Fh : ∀ (ll : List (List Int)), T.freezeL (rowsO ll) = rowsF ll
 | [] => rfl
 | x :: l => by have := Fh l; simp only [rowsO, rowsF, List.map_cons, T.freezeL, T.freeze, E3]; rw [show l.map (fun l => T.sl true 2 (intL l)) = rowsO l from rfl, this]; rfl
theorem Kk : ∀ (ll : List (List Int)), T.refFreeL (rowsO ll) = true
 | [] => rfl
 | x :: l => by have := Kk l; simp only [rowsO, List.map_cons, T.refFreeL, Lf, El, Bool.true_and]; exact this
theorem Ir : ∀ (ll : List (List Int)), T.solidL (rowsO ll) = true
 | [] => rfl
 | x :: l => by have := Ir l; simp only [rowsO, List.map_cons, T.solidL, Oz, Bool.true_and]; exact this
theorem Id : ∀ (ll : List (List Int)), T.noFL (rowsO ll) = true
 | [] => rfl
 | x :: l => by have := Id l; simp only [rowsO, List.map_cons, T.noFL, T.noF, Jz, Bool.true_and]; exact this
attribute [go_sem] Id Cn Gx M3 Fk Fh Ac Ai
end Go.Proofs.YtapdekacpecgiaaGreat
