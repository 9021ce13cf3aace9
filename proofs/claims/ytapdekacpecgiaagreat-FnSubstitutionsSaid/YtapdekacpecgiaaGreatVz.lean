/-
  Laws: their first lines; their tails.
-/
import Derived.Test.YtapdekacpecgiaaGreatFin
import Derived.Test.YtapdekacpecgiaaGreatDs
import Derived.Test.YtapdekacpecgiaaGreatLc
namespace Go.Proofs.YtapdekacpecgiaaGreat
open Go.RowKit
set_option linter.unusedSimpArgs false
set_option linter.unusedVariables false
set_option linter.unusedSectionVars false
set_option maxRecDepth 20000
-- Laws: their first lines; their tails.
set_option maxHeartbeats 1000000 in
theorem c_laws_big (a : Option Addr) (c : Nat) (l : List Int) : AFn Tryz.prog 7 [.str (.src a c l)] (.bool (decide ((4096 : Int) < (l.length : Int)))) := by
  refine AFn.of' ttOk (by decide) Tryz.func7 Tryz.ntmps7 (by rw [Tryz.results7]) (by rfl) (by rfl) (by simp) (by decide) (by simp only [go_sem, Nat.reduceAdd, ↓reduceIte]; rfl) mixed (fun C hP hM hC => ?_)
  (repeat (first | ((with_reducible refine rgn_cons rfl (fun K hK => ?_)); simp only [go_sem, seval, ↓reduceIte, decide_true, decide_false]; (refine hK _ _ _ (by simp only [go_sem, Nat.reduceEqDiff, ↓reduceIte]; rfl) ?_); clear hK; clear K) | (with_reducible first | refine rgn_nil (by first | trivial | kernel_rfl) ?_ | refine AWP.seq ?_ | refine tX hC hP (by kernel_rfl) ?_ | refine aX hC hM hP (by kernel_rfl) ?_ | refine AWP.skip ?_ | refine AWP.label ?_ | refine AWP.exit ?_ | refine AWP.block ?_ | refine cTa ?_ | refine cFa ?_) | simp only [qS, Nat.reduceEqDiff, ↓reduceIte]))
  (refine AWP.ret ?_; refine retOk1 (by simp only [go_sem, seval, ↓reduceIte, decide_true, decide_false]; rfl) ?_)
  rfl
def dropSeq : Nat → Code → Code
  | 0, c => c
  | k + 1, .seq _ y => dropSeq k y
  | _ + 1, c => c
def putSeq : Nat → Code → Code → Code
  | 0, R, _ => R
  | k + 1, R, .seq x y => .seq x (putSeq k R y)
  | _ + 1, _, c => c
theorem putSeq_drop : ∀ (k : Nat) (c : Code), putSeq k (dropSeq k c) c = c
  | 0, _ => rfl
  | k + 1, c => by cases c <;> simp [putSeq, dropSeq, putSeq_drop]
theorem AWP.tailR {C : Ctx} {n : Nat} {Q : Exit → Env → Prop} {env : Env} {c : Code} (k : Nat) (E : Env) (h : AWP C n (dropSeq k c) Q E) (h2 : ∀ R, AWP C n R Q E → AWP C n (putSeq k R c) Q env) : AWP C n c Q env := by
  have h3 := h2 _ h
  rwa [putSeq_drop] at h3
end Go.Proofs.YtapdekacpecgiaaGreat
