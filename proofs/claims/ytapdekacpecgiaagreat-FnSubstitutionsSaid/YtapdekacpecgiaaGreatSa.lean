/-
  Plain laws: the diagonal of a series in two variables. No program.
-/
import Derived.Test.YtapdekacpecgiaaGreatKb
import Derived.Test.YtapdekacpecgiaaGreatQc
import Derived.Test.YtapdekacpecgiaaGreatIa
namespace Go.Proofs.YtapdekacpecgiaaGreat
open Go.RowKit
set_option linter.unusedSimpArgs false
set_option linter.unusedVariables false
set_option linter.unusedSectionVars false
set_option maxRecDepth 20000
-- Plain laws: the diagonal of a series in two variables. No program.
def dg (P : Nat → Nat → Int) (n : Nat) : Int := sm (n + 1) (fun i => P i (n - i))
theorem sm_flip (n : Nat) (H : Nat → Nat → Int) : sm (n + 1) (fun i => sm (n - i + 1) (fun j => H i j)) = sm (n + 1) (fun j => sm (n - j + 1) (fun i => H i j)) := by
  have h1 := sm_tri n (fun i j => H j (i - j))
  have h2 := sm_tri n (fun i j => H (i - j) j)
  have e1 : sm (n + 1) (fun j => sm (n - j + 1) (fun k => H j (j + k - j))) = sm (n + 1) (fun i => sm (n - i + 1) (fun j => H i j)) :=
    sm_congr fun j _ => sm_congr fun k _ => by rw [Nat.add_sub_cancel_left]
  have e2 : sm (n + 1) (fun j => sm (n - j + 1) (fun k => H (j + k - j) j)) = sm (n + 1) (fun j => sm (n - j + 1) (fun i => H i j)) :=
    sm_congr fun j _ => sm_congr fun k _ => by rw [Nat.add_sub_cancel_left]
  rw [← e1, ← e2, ← h1, ← h2]
  refine sm_congr fun i _ => ?_
  rw [sm_rev]
  refine sm_congr fun j hj => ?_
  rw [show i + 1 - 1 - j = i - j by omega, show i - (i - j) = j by omega]
theorem dg_cv2 (a b : Nat → Nat → Int) (n : Nat) : dg (cv2 a b) n = cv (dg a) (dg b) n := by
  have hL : dg (cv2 a b) n = sm (n + 1) (fun i => sm (n - i + 1) (fun j => sm (n - i - j + 1) (fun k => a i j * b k (n - i - j - k)))) := by
    show sm (n + 1) (fun u => sm (u + 1) (fun i => sm (n - u + 1) (fun j => a i j * b (u - i) (n - u - j)))) = _
    rw [sm_tri n (fun u i => sm (n - u + 1) (fun j => a i j * b (u - i) (n - u - j)))]
    refine sm_congr fun i hi => ?_
    have e := sm_flip (n - i) (fun k j => a i j * b k (n - i - j - k))
    rw [← e]
    refine sm_congr fun k hk => ?_
    rw [show n - (i + k) = n - i - k by omega, Nat.add_sub_cancel_left]
    refine sm_congr fun j _ => ?_
    rw [show n - i - k - j = n - i - j - k by omega]
  have hR : cv (dg a) (dg b) n = sm (n + 1) (fun i => sm (n - i + 1) (fun j => a i j * dg b (n - i - j))) := by
    show sm (n + 1) (fun s => dg a s * dg b (n - s)) = _
    have e : sm (n + 1) (fun s => dg a s * dg b (n - s)) = sm (n + 1) (fun s => sm (s + 1) (fun i => a i (s - i) * dg b (n - s))) :=
      sm_congr fun s _ => (sm_mul_right _ _ _).symm
    rw [e, sm_tri n (fun s i => a i (s - i) * dg b (n - s))]
    refine sm_congr fun i _ => sm_congr fun j _ => ?_
    rw [Nat.add_sub_cancel_left, show n - (i + j) = n - i - j by omega]
  rw [hL, hR]
  refine sm_congr fun i _ => sm_congr fun j _ => ?_
  exact sm_mul _ _ _
end Go.Proofs.YtapdekacpecgiaaGreat
