/-
  Draws of series.
-/
import Derived.Test.YtapdekacpecgiaaGreatDs
import Derived.Test.YtapdekacpecgiaaGreatLd
import Derived.Test.YtapdekacpecgiaaGreatLc
namespace Go.Proofs.YtapdekacpecgiaaGreat
open Go.RowKit
set_option linter.unusedSimpArgs false
set_option linter.unusedVariables false
set_option linter.unusedSectionVars false
set_option maxRecDepth 20000
-- Draws of series.
def d2n (l : List Int) (s : Int × Int) : Int := pickX l (nextS l (nextS l (nextS l (drawMS l s) 4) 6) 10) [nextX l (drawMS l s) 4, nextX l (nextS l (drawMS l s) 4) 6, nextX l (nextS l (nextS l (drawMS l s) 4) 6) 10]
def d2S (l : List Int) (s : Int × Int) : Int × Int := nextS l (nextS l (nextS l (nextS l (drawMS l s) 4) 6) 10) 3
def d2L (l : List Int) (s : Int × Int) : List Int := lsL l (drawM l s) (d2S l s) (2 + d2n l s).toNat
def d2T (l : List Int) (s : Int × Int) : Int × Int := lsS l (drawM l s) (d2S l s) (2 + d2n l s).toNat
theorem intL_sc (l : List Int) : (intL l).all T.scalar = true := by
  rw [List.all_eq_true]
  intro t ht
  simp only [intL, List.mem_map] at ht
  obtain ⟨x, _, rfl⟩ := ht
  rfl
theorem drawMS_ok {l : List Int} {s : Int × Int} (hS : Sok l s) : Sok l (drawMS l s) := nextS_ok (nextS_ok (nextS_ok hS _) _) _
theorem d2S_ok {l : List Int} {s : Int × Int} (hS : Sok l s) : Sok l (d2S l s) := nextS_ok (nextS_ok (nextS_ok (nextS_ok (drawMS_ok hS) _) _) _) _
theorem pick3 (l : List Int) (hB : Byt l) (s : Int × Int) (x y z lo hi : Int) (hx : lo ≤ x ∧ x ≤ hi) (hy : lo ≤ y ∧ y ≤ hi) (hz : lo ≤ z ∧ z ≤ hi) : lo ≤ pickX l s [x, y, z] ∧ pickX l s [x, y, z] ≤ hi := by
  have h1 := nextX_bound hB s 3
  have h2 := h1.2.1 (by decide)
  unfold pickX
  show lo ≤ [x, y, z].getD (nextX l s 3).toNat 0 ∧ _
  have : (nextX l s 3).toNat = 0 ∨ (nextX l s 3).toNat = 1 ∨ (nextX l s 3).toNat = 2 := by omega
  rcases this with e | e | e <;> rw [show (([x, y, z] : List Int).length : Int) = 3 from rfl, e] <;> simpa
theorem d2n_bound {l : List Int} (hB : Byt l) (s : Int × Int) : 0 ≤ d2n l s ∧ d2n l s ≤ 9 := by
  have h1 := nextX_bound hB (drawMS l s) 4
  have h2 := nextX_bound hB (nextS l (drawMS l s) 4) 6
  have h3 := nextX_bound hB (nextS l (nextS l (drawMS l s) 4) 6) 10
  have g1 := h1.2.1 (by decide)
  have g2 := h2.2.1 (by decide)
  have g3 := h3.2.1 (by decide)
  exact pick3 l hB _ _ _ _ 0 9 (by omega) (by omega) (by omega)
theorem d2L_length {l : List Int} (hB : Byt l) (s : Int × Int) : 2 ≤ (d2L l s).length ∧ (d2L l s).length ≤ 11 := by
  have := d2n_bound hB s
  rw [d2L, lsL_length]; omega
set_option maxHeartbeats 1000000 in
theorem c_spec_l02Draw (a : Option Addr) (c : Nat) (l : List Int) (hB : Byt l) (s : Int × Int) (hS : Sok l s)  : AFn Tryz.prog (5000000 + 87) [.str (.src a c l), .box 155 (.agg [.str (.raw a l.length c), .int .i64 s.1, .int .u64 s.2])] (.tup [.agg [.int .i64 (drawM l s), .sl true 2 (intL (d2L l s))], .box 155 (.agg [.str (.raw a l.length c), .int .i64 (d2T l s).1, .int .u64 (d2T l s).2])]) := by
  refine AFg.of' ttOk Tryz.func87 Tryz.ntmps87 (by rw [Tryz.results87]) (by rfl) (by rfl) (by simp) (by decide) (by decide) srcScalar srcScalar rfl (by simp only [go_sem, Nat.reduceAdd, ↓reduceIte]; rfl) mixed (fun C hP hM hC => ?_)
  have hb := d2n_bound hB s
  have q1 := drawMS_ok hS
  have q2 := nextS_ok q1 4
  have q3 := nextS_ok q2 6
  have q4 := nextS_ok q3 10
  (repeat (first | ((with_reducible refine rgn_cons rfl (fun K hK => ?_)); simp only [go_sem, seval, ↓reduceIte, decide_true, decide_false, show pickX l (nextS l (nextS l (nextS l (drawMS l s) 4) 6) 10) [nextX l (drawMS l s) 4, nextX l (nextS l (drawMS l s) 4) 6, nextX l (nextS l (nextS l (drawMS l s) 4) 6) 10] = d2n l s from rfl, wid (2 + d2n l s) (by omega) (by omega)]; (first | refine hK _ _ _ (by simp only [go_sem, Nat.reduceEqDiff, ↓reduceIte]; rfl) ?_ | refine ⟨_, c_spec_l01DrawModulus a c l hB s hS, hK _ _ _ (by simp only [go_sem, Nat.reduceEqDiff, ↓reduceIte]; rfl) ?_⟩ | refine ⟨_, c_spec_l01Next a c l hB (drawMS l s) q1 4, hK _ _ _ (by simp only [go_sem, Nat.reduceEqDiff, ↓reduceIte]; rfl) ?_⟩ | refine ⟨_, c_spec_l01Next a c l hB _ q2 6, hK _ _ _ (by simp only [go_sem, Nat.reduceEqDiff, ↓reduceIte]; rfl) ?_⟩ | refine ⟨_, c_spec_l01Next a c l hB _ q3 10, hK _ _ _ (by simp only [go_sem, Nat.reduceEqDiff, ↓reduceIte]; rfl) ?_⟩ | refine ⟨_, c_spec_l01Pick a c l hB _ q4 [nextX l (drawMS l s) 4, nextX l (nextS l (drawMS l s) 4) 6, nextX l (nextS l (nextS l (drawMS l s) 4) 6) 10] (by simp) (by simp), hK _ _ _ (by simp only [go_sem, Nat.reduceEqDiff, ↓reduceIte]; rfl) ?_⟩ | refine ⟨_, c_spec_l01List a c l hB (d2S l s) (d2S_ok hS) (drawM l s) (2 + d2n l s) (by omega), hK _ _ _ (by simp only [go_sem, Nat.reduceEqDiff, ↓reduceIte]; rfl) ?_⟩ | refine ⟨_, c_spec_l02Make _ _, hK _ _ _ (by simp only [go_sem, Nat.reduceEqDiff, ↓reduceIte]; rfl) ?_⟩); clear hK; clear K) | (with_reducible first | refine rgn_nil (by first | trivial | kernel_rfl) ?_ | refine AWP.seq ?_ | refine tX hC hP (by kernel_rfl) ?_ | refine aX hC hM hP (by kernel_rfl) ?_ | refine AWP.skip ?_ | refine AWP.label ?_ | refine AWP.exit ?_ | refine AWP.block ?_ | refine cTa ?_ | refine cFa ?_) | simp only [qS, Nat.reduceEqDiff, ↓reduceIte]))
  (refine AWP.ret ?_; refine retG1 (by simp only [go_sem, seval, ↓reduceIte, decide_true, decide_false]; rfl) (by simp) (by rfl) ?_)
  rfl
abbrev SRC (a : Option Addr) (c : Nat) (l : List Int) (s : Int × Int) : T := .box 155 (.agg [.str (.raw a l.length c), .int .i64 s.1, .int .u64 s.2])
end Go.Proofs.YtapdekacpecgiaaGreat
