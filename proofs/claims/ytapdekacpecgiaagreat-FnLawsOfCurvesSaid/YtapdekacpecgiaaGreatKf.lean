import Derived.Test.YtapdekacpecgiaaGreatKc
namespace Go.Proofs.YtapdekacpecgiaaGreat
open Go.RowKit
set_option linter.unusedSimpArgs false
set_option linter.unusedVariables false
set_option linter.unusedSectionVars false
set_option maxRecDepth 20000
set_option maxHeartbeats 1000000
def aftL (m : Int) (n : Nat) (t : Nat → Nat → Int) (c : List Int) : Nat → List (List Int)
 | 0 => tab2 n (fun _ _ => 0)
 | k + 1 => tab2 n (fun u v => if u = 0 ∧ v = 0 then (cv2 (pc (aftL m n t c k)) t 0 0 % m + at' c (c.length - 1 - k)) % m else cv2 (pc (aftL m n t c k)) t u v % m)
theorem Ee {m : Int} (hm : 0 < m) (n : Nat) (t : Nat → Nat → Int) (c : List Int) : ∀ k, Pl m n (aftL m n t c k)
 | 0 => Pl.tab2 hm fun _ _ _ => by omega
 | k + 1 => Pl.tab2 hm fun u v _ => by split <;> exact As _ m hm
theorem Nl (m : Int) (ll : List (List Int)) (n c : Nat) (hl : Pl m n ll) (hc : c ≤ n) (hn2 : n ≤ 1000) : AFn Tryz.prog 256 [.sl false 27 (rowsF ll), .int .i64 c] (.sl true 2 (intL (tab (n - c) (fun i => pc ll i c)))) := by
 refine fO Tryz.func256 Tryz.ntmps256 (by rw [Tryz.results256]) fun C hP hM hC => ?_
 (repeat (first | ((with_reducible refine rC rfl fun K hK => ?_); simp only [go_sem, seval, ↓reduceIte]; refine hK _ _ _ ?_; clear hK K) | (with_reducible first | refine rN ?_ | refine sQ ?_ | refine tY hC hP ?_ | refine aY hC hM hP ?_ | refine kQ ?_ | refine lQ ?_ | refine eQ ?_ | refine bQ ?_ | refine cTa ?_ | refine cFa ?_) | simp only [qS, Nat.reduceEqDiff, ↓reduceIte]))
 refine AWP.loop (fun w : Nat × Nat => [(6, ⟨0, .val (.int .i64 w.1)⟩), (5, ⟨w.2, .own (.sl true 2 (intL (tab w.1 (fun i => pc ll i c))))⟩), (0, ⟨0, .val (.sl false 27 (rowsF ll))⟩), (1, ⟨0, .val (.int .i64 c)⟩)]) (fun w => w.1 + c ≤ n) (fun w => n - w.1) (0, 1) (by simp only; omega) (fun i => rfl) ?_ (fun w hw => ?_)
 ·simp [Sub, lk, Py, intL]
 ·obtain ⟨i, v⟩ := w
  simp only at hw ⊢
  have w1 := widK (i + c) (by omega)
  by_cases hi : i + c < n
  ·have hr := hl.row i (by omega)
   have hj : c < (ll.getD i []).length := by omega
   have hs := Hp i (fun i => pc ll i c)
   (repeat (first | ((with_reducible refine rC rfl fun K hK => ?_); simp only [go_sem, seval, ↓reduceIte, ← Int.natCast_add, w1, Ac, hl.len, show ((i + c : Nat) : Int) < (n : Int) by omega, Aj ll i (by rw [hl.len]; omega), Int.toNat_natCast, Int.natCast_nonneg, show (i : Int) < (n : Int) by omega, Aa _ _ hj, hr, show (c : Int) < ((n - i : Nat) : Int) by omega, show (ll.getD i []).getD c 0 = pc ll i c from rfl, Ad, Cc, hs, show i + 1 ≤ 1099511627776 by omega, show (i + 1) * 8 ≤ 140737488355328 by omega, wid ((i : Int) + 1) (by omega) (by omega)]; refine hK _ _ _ ?_; clear hK K) | (with_reducible first | refine rN ?_ | refine sQ ?_ | refine tY hC hP ?_ | refine aY hC hM hP ?_ | refine kQ ?_ | refine lQ ?_ | refine eQ ?_ | refine bQ ?_ | refine cTa ?_ | refine cFa ?_) | simp only [qS, Nat.reduceEqDiff, ↓reduceIte]))
   exact ⟨(i + 1, v + 1), by simp only; omega, by simp only; omega, by simp [Sub, lk]⟩
  ·(repeat (first | ((with_reducible refine rC rfl fun K hK => ?_); simp only [go_sem, seval, ↓reduceIte, ← Int.natCast_add, w1, Ac, hl.len, show ¬ ((i + c : Nat) : Int) < (n : Int) by omega]; refine hK _ _ _ ?_; clear hK K) | (with_reducible first | refine rN ?_ | refine sQ ?_ | refine tY hC hP ?_ | refine aY hC hM hP ?_ | refine kQ ?_ | refine lQ ?_ | refine eQ ?_ | refine bQ ?_ | refine cTa ?_ | refine cFa ?_) | simp only [qS, Nat.reduceEqDiff, ↓reduceIte]))
   refine rt1 ?_
   rw [show i = n - c by omega]
set_option maxHeartbeats 1000000 in
theorem Cu (m : Int) (c : List Int) (ll : List (List Int)) (n : Nat) (hm : 0 < m) (hm2 : m ≤ 10000) (hl : Pl m n ll) (hc : ∀ x ∈ c, 0 ≤ x ∧ x < m) (hcl : c.length ≤ 1000) (hn : 1 ≤ n) (hn2 : n ≤ 1000) : AFn Tryz.prog 93 [.int .i64 m, .sl false 2 (intL c), .sl false 27 (rowsF ll)] (.sl true 27 (rowsO (aftL m n (pc ll) c c.length))) := by
 refine fO Tryz.func93 Tryz.ntmps93 (by rw [Tryz.results93]) fun C hP hM hC => ?_
 have hZ0 := B2 (n - 1) (by omega)
 rw [show n - 1 + 1 = n by omega] at hZ0
 (repeat (first | ((with_reducible refine rC rfl fun K hK => ?_); simp only [go_sem, seval, ↓reduceIte, Ac, hl.len, show IntKind.i64.wrap ((n : Int) - 1) = ((n - 1 : Nat) : Int) by rw [wid _ (by omega) (by omega)]; omega, wid ((c.length : Int) - 1) (by omega) (by omega)]; (first | refine hK _ _ _ ?_ | refine ⟨_, hZ0, hK _ _ _ ?_⟩); clear hK K) | (with_reducible first | refine rN ?_ | refine sQ ?_ | refine tY hC hP ?_ | refine aY hC hM hP ?_ | refine kQ ?_ | refine lQ ?_ | refine eQ ?_ | refine bQ ?_ | refine cTa ?_ | refine cFa ?_) | simp only [qS, Nat.reduceEqDiff, ↓reduceIte]))
 refine AWP.loop (fun w : Nat × Nat => [(8, ⟨0, .val (.int .i64 ((c.length : Int) - 1 - (w.1 : Int)))⟩), (7, ⟨w.2, .own (.sl true 27 (rowsO (aftL m n (pc ll) c w.1)))⟩), (0, ⟨0, .val (.int .i64 m)⟩), (1, ⟨0, .val (.sl false 2 (intL c))⟩), (2, ⟨0, .val (.sl false 27 (rowsF ll))⟩)]) (fun w => w.1 ≤ c.length) (fun w => c.length - w.1) (0, 1) (Nat.zero_le _) (fun i => rfl) ?_ (fun w hw => ?_)
 ·simp [Sub, lk, aftL]
 ·obtain ⟨k, v⟩ := w
  simp only at hw ⊢
  by_cases hk : k < c.length
  ·have hT := B5 m (aftL m n (pc ll) c k) ll n hm hm2 (Ee hm n _ c k) hl hn hn2
   have h0 : 0 < (pmul m n (pc (aftL m n (pc ll) c k)) (pc ll)).length := by rw [pmul, Am]; omega
   have hrow : (pmul m n (pc (aftL m n (pc ll) c k)) (pc ll)).getD 0 [] = tab n (fun v => cv2 (pc (aftL m n (pc ll) c k)) (pc ll) 0 v % m) := by rw [pmul, Bu (by omega), Nat.sub_zero]
   have h1 : 0 < (tab n (fun v => cv2 (pc (aftL m n (pc ll) c k)) (pc ll) 0 v % m)).length := by rw [Ad]; omega
   have g1 : (tab n (fun v => cv2 (pc (aftL m n (pc ll) c k)) (pc ll) 0 v % m)).getD 0 0 = cv2 (pc (aftL m n (pc ll) c k)) (pc ll) 0 0 % m := Dd (by omega)
   have hx := Af hc hm (c.length - 1 - k)
   have hp := As (cv2 (pc (aftL m n (pc ll) c k)) (pc ll) 0 0) m hm
   have hpl : (pmul m n (pc (aftL m n (pc ll) c k)) (pc ll)).length = n := Am n _
   have hst : (pmul m n (pc (aftL m n (pc ll) c k)) (pc ll)).set 0 ((tab n (fun v => cv2 (pc (aftL m n (pc ll) c k)) (pc ll) 0 v % m)).set 0 ((cv2 (pc (aftL m n (pc ll) c k)) (pc ll) 0 0 % m + at' c (c.length - 1 - k)) % m)) = aftL m n (pc ll) c (k + 1) := D8 (fun a b _ => rfl)
   (repeat (first | ((with_reducible refine rC rfl fun K hK => ?_); simp only [go_sem, seval, ↓reduceIte, show (0 : Int) ≤ (c.length : Int) - 1 - (k : Int) by omega, Int.le_refl, Int.toNat_zero, Au _ _ h0, An _ _ (Nat.le_of_lt h0), Ai, hpl, show (0 : Int) < (n : Int) by omega, hrow, List.take_zero, If, Nat.zero_mul, Nat.mul_one, Ae _ _ h1, Ab _ _ (Nat.le_of_lt h1), Ad, g1, Nat.sub_zero, show ((c.length : Int) - 1 - (k : Int)).toNat = c.length - 1 - k by omega, show (c.length : Int) - 1 - (k : Int) < (c.length : Int) by omega, Aa c (c.length - 1 - k) (by omega), show c.getD (c.length - 1 - k) 0 = at' c (c.length - 1 - k) from rfl, wid (cv2 (pc (aftL m n (pc ll) c k)) (pc ll) 0 0 % m + at' c (c.length - 1 - k)) (by omega) (by omega), tm (cv2 (pc (aftL m n (pc ll) c k)) (pc ll) 0 0 % m + at' c (c.length - 1 - k)) m (by omega), show m ≠ 0 by omega, Bq _ _ _ _ h0, hst, wid ((c.length : Int) - 1 - (k : Int) - 1) (by omega) (by omega)]; (first | refine hK _ _ _ ?_ | refine ⟨_, hT, hK _ _ _ ?_⟩); clear hK K) | (with_reducible first | refine rN ?_ | refine sQ ?_ | refine tY hC hP ?_ | refine aY hC hM hP ?_ | refine kQ ?_ | refine lQ ?_ | refine eQ ?_ | refine bQ ?_ | refine cTa ?_ | refine cFa ?_) | simp only [qS, Nat.reduceEqDiff, ↓reduceIte]))
   exact ⟨(k + 1, v + 1), by simp only; omega, by simp only; omega, by simp [Sub, lk]; omega⟩
  ·(repeat (first | ((with_reducible refine rC rfl fun K hK => ?_); simp only [go_sem, seval, ↓reduceIte, show ¬ (0 : Int) ≤ (c.length : Int) - 1 - (k : Int) by omega]; refine hK _ _ _ ?_; clear hK K) | (with_reducible first | refine rN ?_ | refine sQ ?_ | refine tY hC hP ?_ | refine aY hC hM hP ?_ | refine kQ ?_ | refine lQ ?_ | refine eQ ?_ | refine bQ ?_ | refine cTa ?_ | refine cFa ?_) | simp only [qS, Nat.reduceEqDiff, ↓reduceIte]))
   refine rt1 ?_
   rw [show k = c.length by omega]
end Go.Proofs.YtapdekacpecgiaaGreat
