/-
  The type table of this seat.
-/
import Derived.Test.YtahnnangdepkbabGD
import Derived.Test.YtahnnangdepkbabRows
namespace Go.Proofs.Ytahnnangdepkbab
open Go.RowKit
set_option linter.unusedSimpArgs false
set_option linter.unusedVariables false
set_option linter.unusedSectionVars false
set_option maxRecDepth 20000
-- The type table of this seat.
def tt : Tt := [
  (2, ⟨1, 8, .int .i64 0, .int .i64⟩),
  (3, ⟨1, 8, .int .i64 0, .int .i64⟩),
  (4, ⟨1, 1, .bool false, .bool⟩),
  (26, ⟨1, 24, .nil, .slice 2⟩),
  (22, ⟨1, 24, .nil, .slice 26⟩),
  (5, ⟨1, 1, .int .u8 0, .int .u8⟩),
  (95, ⟨1, 8, .int .u64 0, .int .u64⟩),
  (28, ⟨2, 32, .agg [.int .i64 0, .nil], .struct [(2, 0, 1), (26, 1, 1)]⟩),
  (31, ⟨2, 32, .agg [.int .i64 0, .nil], .struct [(2, 0, 1), (22, 1, 1)]⟩),
  (24, ⟨2, 32, .agg [.int .i64 0, .nil], .struct [(2, 0, 1), (22, 1, 1)]⟩),
  (80, ⟨1, 24, .nil, .slice 22⟩),
  (93, ⟨1, 24, .nil, .slice 31⟩),
  (46, ⟨1, 24, .nil, .slice 28⟩),
  (78, ⟨1, 8, .str .nilFunc, .plain⟩),
  (48, ⟨1, 8, .str .nilFunc, .plain⟩)]
theorem ttOk' : ∀ (l : Tt), (∀ x ∈ l, TyOk Try.prog x.1 x.2) → TtOk Try.prog l
  | [], _, t, i, h => by simp [tyAt] at h
  | (u, j) :: l, hl, t, i, h => by
    simp only [tyAt] at h
    split at h
    · rename_i e
      subst e
      simp only [Option.some.injEq] at h
      subst h
      exact hl (u, j) (by simp)
    · exact ttOk' l (fun x hx => hl x (by simp [hx])) t i h

theorem ttOk : TtOk Try.prog tt := ttOk' _ (by
  intro x hx
  simp only [tt, List.mem_cons, List.not_mem_nil, or_false] at hx
  rcases hx with rfl | rfl | rfl | rfl | rfl | rfl | rfl | rfl | rfl | rfl | rfl | rfl | rfl | rfl | rfl
  · exact ⟨by kernel_rfl, rfl, rfl, by kernel_rfl, rfl⟩
  · exact ⟨by kernel_rfl, rfl, rfl, by kernel_rfl, rfl⟩
  · exact ⟨by kernel_rfl, rfl, rfl, by kernel_rfl, rfl⟩
  · exact ⟨by kernel_rfl, rfl, rfl, by kernel_rfl, rfl⟩
  · exact ⟨by kernel_rfl, rfl, rfl, by kernel_rfl, rfl⟩
  · exact ⟨by kernel_rfl, rfl, rfl, by kernel_rfl, rfl⟩
  · exact ⟨by kernel_rfl, rfl, rfl, by kernel_rfl, rfl⟩
  · exact ⟨by kernel_rfl, rfl, rfl, by kernel_rfl, rfl⟩
  · exact ⟨by kernel_rfl, rfl, rfl, by kernel_rfl, rfl⟩
  · exact ⟨by kernel_rfl, rfl, rfl, by kernel_rfl, rfl⟩
  · exact ⟨by kernel_rfl, rfl, rfl, by kernel_rfl, rfl⟩
  · exact ⟨by kernel_rfl, rfl, rfl, by kernel_rfl, rfl⟩
  · exact ⟨by kernel_rfl, rfl, rfl, by kernel_rfl, rfl⟩
  · exact ⟨by kernel_rfl, rfl, rfl, by kernel_rfl, rfl⟩
  · exact ⟨by kernel_rfl, rfl, rfl, by kernel_rfl, rfl⟩)
theorem mixed : Try.prog.follows .mixedOrders = true := by kernel_rfl
end Go.Proofs.Ytahnnangdepkbab
