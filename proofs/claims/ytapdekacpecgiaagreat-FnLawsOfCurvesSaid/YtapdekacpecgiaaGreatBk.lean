import Derived.Test.YtapdekacpecgiaaGreatBh
import Derived.Test.YtapdekacpecgiaaGreatIa
import Derived.Test.YtapdekacpecgiaaGreatIa
import Derived.Test.YtapdekacpecgiaaGreatCu
import Derived.Test.YtapdekacpecgiaaGreatQd
import Derived.Test.YtapdekacpecgiaaGreatQh
import Derived.Test.YtapdekacpecgiaaGreatHz
import Derived.Test.YtapdekacpecgiaaGreatBy
namespace Go.Proofs.YtapdekacpecgiaaGreat
open Go.RowKit
set_option linter.unusedSimpArgs false
set_option linter.unusedVariables false
set_option linter.unusedSectionVars false
set_option maxRecDepth 20000
set_option maxHeartbeats 1000000
theorem Jq {m a : Int} (hm : 0 ≤ m ∧ m ≤ 10000) (ha : 0 ≤ a ∧ a ≤ 10000) : AFn Tryz.prog 151 [.int .i64 m, .int .i64 a] (.bool (unB m a)) := by
 obtain ⟨M, rfl⟩ := Int.eq_ofNat_of_zero_le hm.1
 obtain ⟨A, rfl⟩ := Int.eq_ofNat_of_zero_le ha.1
 exact Q6 M A (by omega) (by omega)
theorem Nz (m a : Nat) (hm : m ≤ 10000) (ha : a ≤ 10000) : AFn Tryz.prog 133 [.int .i64 m, .int .i64 a] (.bool (unB m a)) := by
 refine fO Tryz.func133 Tryz.ntmps133 (by rw [Tryz.results133]) fun C hP hM hC => ?_
 have h1 := Rb a m (by omega) (by omega)
 obtain ⟨g, hg⟩ : ∃ g, Nat.gcd a m = g := ⟨_, rfl⟩
 rw [hg] at h1
 have hu : unB m a = (g == 1) := by rw [unB, Int.toNat_natCast, Int.toNat_natCast, hg]
 by_cases e : g = 1
 ·have zq1 : ((g : Int) == 1) = true := (by rw [beq_iff_eq]; omega)
  (repeat (first | ((with_reducible refine rC rfl fun K hK => ?_); simp only [go_sem, seval, ↓reduceIte, zq1]; (first | refine hK _ _ _ ?_ | refine ⟨_, h1, hK _ _ _ ?_⟩); clear hK K) | (with_reducible first | refine rN ?_ | refine sQ ?_ | refine tY hC hP ?_ | refine aY hC hM hP ?_ | refine kQ ?_ | refine lQ ?_ | refine eQ ?_ | refine bQ ?_ | refine cTa ?_ | refine cFa ?_) | simp only [qS, Nat.reduceEqDiff, ↓reduceIte]))
  refine rt1 ?_
  rw [hu, beq_iff_eq.2 e]
 ·have zq2 : ((g : Int) == 1) = false := (by rw [beq_eq_false_iff_ne]; omega)
  (repeat (first | ((with_reducible refine rC rfl fun K hK => ?_); simp only [go_sem, seval, ↓reduceIte, zq2]; (first | refine hK _ _ _ ?_ | refine ⟨_, h1, hK _ _ _ ?_⟩); clear hK K) | (with_reducible first | refine rN ?_ | refine sQ ?_ | refine tY hC hP ?_ | refine aY hC hM hP ?_ | refine kQ ?_ | refine lQ ?_ | refine eQ ?_ | refine bQ ?_ | refine cTa ?_ | refine cFa ?_) | simp only [qS, Nat.reduceEqDiff, ↓reduceIte]))
  refine rt1 ?_
  rw [hu, beq_eq_false_iff_ne.2 e]
theorem Gk {m a : Int} (hm : 0 ≤ m ∧ m ≤ 10000) (ha : 0 ≤ a ∧ a ≤ 10000) : AFn Tryz.prog 133 [.int .i64 m, .int .i64 a] (.bool (unB m a)) := by
 obtain ⟨M, rfl⟩ := Int.eq_ofNat_of_zero_le hm.1
 obtain ⟨A, rfl⟩ := Int.eq_ofNat_of_zero_le ha.1
 exact Nz M A (by omega) (by omega)
theorem Me {m a : Int} (h : unB m a = true) : Nat.gcd a.toNat m.toNat = 1 := by
 unfold unB at h
 exact beq_iff_eq.1 h
def axX2 (l : List Int) (i u v : Nat) : Int := if v = 0 ∧ u < i then at' l u else 0
def axY2 (l : List Int) (i u v : Nat) : Int := if u = 0 ∧ v < i then at' l v else 0
theorem Hv (m : Int) (l : List Int) (n : Nat) (hl : l.length = n) (hn : 1 ≤ n) (hn2 : n ≤ 900) : AFn Tryz.prog 82 [.agg [.int .i64 m, .sl false 2 (intL l)], .int .i64 0] (.agg [.int .i64 m, .sl true 27 (rowsO (tab2 n (axX2 l n)))]) := by
 refine fO Tryz.func82 Tryz.ntmps82 (by rw [Tryz.results82]) fun C hP hM hC => ?_
 have hZ0 := C7 m (n - 1) (by omega)
 rw [show n - 1 + 1 = n by omega, show tab2 n (fun _ _ => 0) = tab2 n (axX2 l 0) from Av fun u v _ => by simp [axX2]] at hZ0
 have hD := At m l (by omega)
 rw [hl, show (n : Int) - 1 = ((n - 1 : Nat) : Int) by omega] at hD
 (repeat (first | ((with_reducible refine rC rfl fun K hK => ?_); simp only [go_sem, seval, ↓reduceIte, hl]; (first | refine hK _ _ _ ?_ | refine ⟨_, hD, hK _ _ _ ?_⟩ | refine ⟨_, hZ0, hK _ _ _ ?_⟩); clear hK K) | (with_reducible first | refine rN ?_ | refine sQ ?_ | refine tY hC hP ?_ | refine aY hC hM hP ?_ | refine kQ ?_ | refine lQ ?_ | refine eQ ?_ | refine bQ ?_ | refine cTa ?_ | refine cFa ?_) | simp only [qS, Nat.reduceEqDiff, ↓reduceIte]))
 refine AWP.loop (fun i : Nat => [(16, ⟨0, .val (.int .i64 i)⟩), (15, ⟨0, .val (.int .i64 n)⟩), (14, ⟨0, .val (.sl false 2 (intL l))⟩), (5, ⟨2, .own (.box 26 (.agg [.int .i64 m, .sl true 27 (rowsO (tab2 n (axX2 l i)))]))⟩), (1, ⟨0, .val (.int .i64 0)⟩), (4, ⟨1, .own (.box 26 (.agg [.int .i64 0, .nil]))⟩)]) (fun i => i ≤ n) (fun i => n - i) 0 (Nat.zero_le _) (fun i => rfl) ?_ (fun i hi => ?_)
 ·simp [Sub, lk]
 ·by_cases hin : i < n
  ·have hi1 : i < (tab2 n (axX2 l i)).length := by rw [Am]; exact hin
   have hc : 0 < (tab (n - i) (axX2 l i i)).length := by rw [Ad]; omega
   have hst : (tab2 n (axX2 l i)).set i ((tab (n - i) (axX2 l i i)).set 0 (at' l i)) = tab2 n (axX2 l (i + 1)) := D8 (fun a b _ => by
    unfold axX2
    by_cases e : a = i ∧ b = 0
    ·obtain ⟨rfl, rfl⟩ := e; simp
    ·rw [if_neg e]
     by_cases h2 : b = 0 ∧ a < i
     ·rw [if_pos h2, if_pos (by omega)]
     ·rw [if_neg h2, if_neg (by omega)])
   have zq1 : (i : Int) < (n : Int) := (by omega); have zq2 := Aa l i (by omega); have zq3 : l.getD i 0 = at' l i := rfl; have zq4 : ((0 : Int) == 0) = true := rfl; have zq5 : (0 : Int) < ((n - i : Nat) : Int) := (by omega); have zq6 := wid ((i : Int) + 1) (by omega) (by omega)
   (repeat (first | ((with_reducible refine rC rfl fun K hK => ?_); simp only [go_sem, seval, ↓reduceIte, zq1, hl, zq2, zq3, zq4, Au _ _ hi1, An _ _ (Nat.le_of_lt hi1), Ai, Am, Bu hin, Ad, Nat.mul_one, Int.toNat_natCast, Int.natCast_nonneg, Int.le_refl, Int.toNat_zero, List.take_zero, Nat.zero_mul, zq5, Ae _ 0 hc, Bq _ _ _ _ hi1, hst, zq6]; refine hK _ _ _ ?_; clear hK K) | (with_reducible first | refine rN ?_ | refine sQ ?_ | refine tY hC hP ?_ | refine aY hC hM hP ?_ | refine kQ ?_ | refine lQ ?_ | refine eQ ?_ | refine bQ ?_ | refine cTa ?_ | refine cFa ?_) | simp only [qS, Nat.reduceEqDiff, ↓reduceIte]))
   exact ⟨i + 1, hin, by omega, by simp [Sub, lk]⟩
  ·have e : i = n := by omega
   subst e
   have zq7 : ¬ (i : Int) < (i : Int) := (by omega)
   (repeat (first | ((with_reducible refine rC rfl fun K hK => ?_); simp only [go_sem, seval, ↓reduceIte, zq7]; refine hK _ _ _ ?_; clear hK K) | (with_reducible first | refine rN ?_ | refine sQ ?_ | refine tY hC hP ?_ | refine aY hC hM hP ?_ | refine kQ ?_ | refine lQ ?_ | refine eQ ?_ | refine bQ ?_ | refine cTa ?_ | refine cFa ?_) | simp only [qS, Nat.reduceEqDiff, ↓reduceIte]))
   refine rt1 ?_
   rfl
theorem Hm (m : Int) (l : List Int) (n : Nat) (hl : l.length = n) (hn : 1 ≤ n) (hn2 : n ≤ 900) : AFn Tryz.prog 82 [.agg [.int .i64 m, .sl false 2 (intL l)], .int .i64 1] (.agg [.int .i64 m, .sl true 27 (rowsO (tab2 n (axY2 l n)))]) := by
 refine fO Tryz.func82 Tryz.ntmps82 (by rw [Tryz.results82]) fun C hP hM hC => ?_
 have hZ0 := C7 m (n - 1) (by omega)
 rw [show n - 1 + 1 = n by omega, show tab2 n (fun _ _ => 0) = tab2 n (axY2 l 0) from Av fun u v _ => by simp [axY2]] at hZ0
 have hD := At m l (by omega)
 rw [hl, show (n : Int) - 1 = ((n - 1 : Nat) : Int) by omega] at hD
 (repeat (first | ((with_reducible refine rC rfl fun K hK => ?_); simp only [go_sem, seval, ↓reduceIte, hl]; (first | refine hK _ _ _ ?_ | refine ⟨_, hD, hK _ _ _ ?_⟩ | refine ⟨_, hZ0, hK _ _ _ ?_⟩); clear hK K) | (with_reducible first | refine rN ?_ | refine sQ ?_ | refine tY hC hP ?_ | refine aY hC hM hP ?_ | refine kQ ?_ | refine lQ ?_ | refine eQ ?_ | refine bQ ?_ | refine cTa ?_ | refine cFa ?_) | simp only [qS, Nat.reduceEqDiff, ↓reduceIte]))
 refine AWP.loop (fun i : Nat => [(16, ⟨0, .val (.int .i64 i)⟩), (15, ⟨0, .val (.int .i64 n)⟩), (14, ⟨0, .val (.sl false 2 (intL l))⟩), (5, ⟨2, .own (.box 26 (.agg [.int .i64 m, .sl true 27 (rowsO (tab2 n (axY2 l i)))]))⟩), (1, ⟨0, .val (.int .i64 1)⟩), (4, ⟨1, .own (.box 26 (.agg [.int .i64 0, .nil]))⟩)]) (fun i => i ≤ n) (fun i => n - i) 0 (Nat.zero_le _) (fun i => rfl) ?_ (fun i hi => ?_)
 ·simp [Sub, lk]
 ·by_cases hin : i < n
  ·have hi1 : 0 < (tab2 n (axY2 l i)).length := by rw [Am]; omega
   have hc : i < (tab (n - 0) (axY2 l i 0)).length := by rw [Ad]; omega
   have hst : (tab2 n (axY2 l i)).set 0 ((tab (n - 0) (axY2 l i 0)).set i (at' l i)) = tab2 n (axY2 l (i + 1)) := D8 (fun a b _ => by
    unfold axY2
    by_cases e : a = 0 ∧ b = i
    ·obtain ⟨rfl, rfl⟩ := e; simp
    ·rw [if_neg e]
     by_cases h2 : a = 0 ∧ b < i
     ·rw [if_pos h2, if_pos (by omega)]
     ·rw [if_neg h2, if_neg (by omega)])
   have zq1 : (i : Int) < (n : Int) := (by omega); have zq2 := Aa l i (by omega); have zq3 : l.getD i 0 = at' l i := rfl; have zq4 : ((1 : Int) == 0) = false := rfl; have zq5 : (0 : Int) < (n : Int) := (by omega); have zq6 : (tab2 n (axY2 l i)).set 0 ((tab n (axY2 l i 0)).set i (at' l i)) = tab2 n (axY2 l (i + 1)) := hst; have zq7 := wid ((i : Int) + 1) (by omega) (by omega)
   (repeat (first | ((with_reducible refine rC rfl fun K hK => ?_); simp only [go_sem, seval, ↓reduceIte, zq1, hl, zq2, zq3, zq4, Au _ _ hi1, An _ _ (Nat.le_of_lt hi1), Ai, Am, Bu (show 0 < n by omega), Ad, Nat.mul_one, Int.toNat_natCast, Int.natCast_nonneg, Int.le_refl, Int.toNat_zero, List.take_zero, Nat.zero_mul, Nat.sub_zero, zq5, Ae _ _ (show i < (tab n (axY2 l i 0)).length by rw [Ad]; omega), Ab _ _ (show i ≤ (tab n (axY2 l i 0)).length by rw [Ad]; omega), Bq _ _ _ _ hi1, zq6, zq7]; refine hK _ _ _ ?_; clear hK K) | (with_reducible first | refine rN ?_ | refine sQ ?_ | refine tY hC hP ?_ | refine aY hC hM hP ?_ | refine kQ ?_ | refine lQ ?_ | refine eQ ?_ | refine bQ ?_ | refine cTa ?_ | refine cFa ?_) | simp only [qS, Nat.reduceEqDiff, ↓reduceIte]))
   exact ⟨i + 1, hin, by omega, by simp [Sub, lk]⟩
  ·have e : i = n := by omega
   subst e
   have zq8 : ¬ (i : Int) < (i : Int) := (by omega)
   (repeat (first | ((with_reducible refine rC rfl fun K hK => ?_); simp only [go_sem, seval, ↓reduceIte, zq8]; refine hK _ _ _ ?_; clear hK K) | (with_reducible first | refine rN ?_ | refine sQ ?_ | refine tY hC hP ?_ | refine aY hC hM hP ?_ | refine kQ ?_ | refine lQ ?_ | refine eQ ?_ | refine bQ ?_ | refine cTa ?_ | refine cFa ?_) | simp only [qS, Nat.reduceEqDiff, ↓reduceIte]))
   refine rt1 ?_
   rfl
theorem Lx (m : Int) (d : Nat) (hd : 1 ≤ d) (hd2 : d ≤ 800) : AFn Tryz.prog 146 [.int .i64 m, .int .i64 d] (.tup [.agg [.int .i64 m, .sl true 27 (rowsO (tab2 (d + 1) (axX2 (varL d) (d + 1))))], .agg [.int .i64 m, .sl true 27 (rowsO (tab2 (d + 1) (axY2 (varL d) (d + 1))))]]) := by
 refine fO Tryz.func146 Tryz.ntmps146 (by rw [Tryz.results146]) fun C hP hM hC => ?_
 have hv := Oc m d hd (by omega)
 have hl : (varL d).length = d + 1 := Ad _ _
 have zq1 := Hv m (varL d) (d + 1) hl (by omega) (by omega); have zq2 := Hm m (varL d) (d + 1) hl (by omega) (by omega)
 (repeat (first | ((with_reducible refine rC rfl fun K hK => ?_); simp only [go_sem, seval, ↓reduceIte]; (first | refine hK _ _ _ ?_ | refine ⟨_, hv, hK _ _ _ ?_⟩ | refine ⟨_, zq1, hK _ _ _ ?_⟩ | refine ⟨_, zq2, hK _ _ _ ?_⟩); clear hK K) | (with_reducible first | refine rN ?_ | refine sQ ?_ | refine tY hC hP ?_ | refine aY hC hM hP ?_ | refine kQ ?_ | refine lQ ?_ | refine eQ ?_ | refine bQ ?_ | refine cTa ?_ | refine cFa ?_) | simp only [qS, Nat.reduceEqDiff, ↓reduceIte]))
 refine rt2 ?_
 rfl
def suT (m : Int) (a : List Int) (D : Nat) : List (List Int) := tab2 (D + 1) (fun u v => sumF a u v % m)
theorem Ot {m : Int} (hm : 0 < m) (a : List Int) (D : Nat) : Pl m (D + 1) (suT m a D) := Pl.tab2 hm fun _ _ _ => As _ m hm
theorem Md {m : Int} (a : List Int) (D : Nat) : ∀ u v, u + v ≤ D → pc (suT m a D) u v % m = sumF a u v % m := fun u v h => by
 rw [suT, Bn (by omega), Int.emod_emod]
theorem Agr {m : Int} (hm : 0 < m) {a : List Int} (ha : ∀ x ∈ a, 0 ≤ x ∧ x < m) (n : Nat) : Pl m n (tab2 n (axX2 a n)) ∧ Pl m n (tab2 n (axY2 a n)) := ⟨Pl.tab2 hm fun u v _ => by
 unfold axX2
 split
 ·exact Af ha hm _
 ·omega, Pl.tab2 hm fun u v _ => by
 unfold axY2
 split
 ·exact Af ha hm _
 ·omega⟩
theorem Adf (m : Int) (a : List Int) (D : Nat) : tab2 (D + 1) (fun u v => (pc (tab2 (D + 1) (axX2 a (D + 1))) u v + pc (tab2 (D + 1) (axY2 a (D + 1))) u v) % m) = suT m a D := Av fun u v h => by
 rw [Bn h, Bn h]
 refine congrArg (· % m) ?_
 unfold axX2 axY2 sumF
 congr 1
 ·by_cases e : v = 0
  ·rw [if_pos ⟨e, by omega⟩, if_pos e]
  ·rw [if_neg (fun h => e h.1), if_neg e]
 ·by_cases e : u = 0
  ·rw [if_pos ⟨e, by omega⟩, if_pos e]
  ·rw [if_neg (fun h => e h.1), if_neg e]
set_option maxHeartbeats 2000000 in
theorem K4 (m : Int) (a : List Int) (D : Nat) (hm : 1 < m) (hm2 : m ≤ 10000) (ha : ∀ x ∈ a, 0 ≤ x ∧ x < m) (hal : a.length = D + 1) (h1 : 1 ≤ D) (hD : D ≤ 800) : AFn Tryz.prog 140 [.agg [.int .i64 m, .sl false 2 (intL a)]] (.agg [.int .i64 m, .sl true 27 (rowsO (lawT m a D (pc (suT m a D))))]) := by
 refine fO Tryz.func140 Tryz.ntmps140 (by rw [Tryz.results140]) fun C hP hM hC => ?_
 have z : (0 : Int) < m := by omega
 have hu := Bv m (at' a 1) z
 have f := Dl z hu a D (D - 1)
 have hR := Jc m a D hm hm2 ha hal h1 (by omega)
 have hX := Hv m a (D + 1) hal (by omega) (by omega)
 have hY := Hm m a (D + 1) hal (by omega) (by omega)
 have hp := Agr z ha (D + 1)
 have hA := Eu m (tab2 (D + 1) (axX2 a (D + 1))) (tab2 (D + 1) (axY2 a (D + 1))) (D + 1) z hm2 hp.1 hp.2 (by omega) (by omega)
 rw [Adf] at hA
 have hO := Hh m (rvL m a D) (suT m a D) (D + 1) z hm2 (Ot z a D) f.2 (by rw [show (rvL m a D).length = D + 1 from f.1]; omega) (by omega) (by omega)
 rw [show (rvL m a D).length = D + 1 from f.1] at hO
 (repeat (first | ((with_reducible refine rC rfl fun K hK => ?_); simp only [go_sem, seval, ↓reduceIte]; (first | refine hK _ _ _ ?_ | refine ⟨_, hR, hK _ _ _ ?_⟩ | refine ⟨_, hX, hK _ _ _ ?_⟩ | refine ⟨_, hY, hK _ _ _ ?_⟩ | refine ⟨_, hA, hK _ _ _ ?_⟩ | refine ⟨_, hO, hK _ _ _ ?_⟩); clear hK K) | (with_reducible first | refine rN ?_ | refine sQ ?_ | refine tY hC hP ?_ | refine aY hC hM hP ?_ | refine kQ ?_ | refine lQ ?_ | refine eQ ?_ | refine bQ ?_ | refine cTa ?_ | refine cFa ?_) | simp only [qS, Nat.reduceEqDiff, ↓reduceIte]))
 refine rt1 ?_
 rfl
def smT (a : List Int) (D : Nat) : Nat → List (List Int)
 | 0 => zeT D
 | i + 1 => put2 (put2 (smT a D i) (i + 1) 0 (at' a (i + 1))) 0 (i + 1) (at' a (i + 1))
theorem Oo {m : Int} (hm : 1 < m) {a : List Int} (ha : ∀ x ∈ a, 0 ≤ x ∧ x < m) (D : Nat) : ∀ k, Pl m (D + 1) (smT a D k)
 | 0 => Ey (by omega) D
 | k + 1 => ((Oo hm ha D k).put (Af ha (by omega) (k + 1)) _ _).put (Af ha (by omega) (k + 1)) _ _
theorem Ac1 {m : Int} {n : Nat} {t : List (List Int)} (h : Pl m n t) {i j : Nat} (hij : i + j < n) (x : Int) (u v : Nat) : pc (put2 t i j x) u v = if u = i ∧ v = j then x else pc t u v := by
 rw [pc, Ns]
 by_cases e : u = i
 ·rw [if_pos ⟨e, by rw [h.len]; omega⟩, Aa6]
  by_cases e2 : v = j
  ·rw [if_pos ⟨e2, by rw [h.row i (by omega)]; omega⟩, if_pos ⟨e, e2⟩]
  ·rw [if_neg (fun h => e2 h.1), if_neg (fun h => e2 h.2), pc, e]
 ·rw [if_neg (fun h => e h.1), if_neg (fun h => e h.1), pc]
theorem Acg {m : Int} (hm : 1 < m) {a : List Int} (ha : ∀ x ∈ a, 0 ≤ x ∧ x < m) (D : Nat) : ∀ k, k ≤ D → ∀ u v, pc (smT a D k) u v = if v = 0 ∧ 1 ≤ u ∧ u ≤ k then at' a u else if u = 0 ∧ 1 ≤ v ∧ v ≤ k then at' a v else 0
 | 0, _, u, v => by
  rw [smT, if_neg (by omega), if_neg (by omega), zeT]
  by_cases h : u + v < D + 1
  ·rw [Bn h]
  ·rw [Th (by omega)]
 | k + 1, hk, u, v => by
  have p0 := Oo hm ha D k
  have p1 := p0.put (Af ha (show 0 < m by omega) (k + 1)) (k + 1) 0
  rw [smT, Ac1 p1 (by omega), Ac1 p0 (by omega), Acg hm ha D k (by omega) u v]
  by_cases e1 : u = 0 ∧ v = k + 1
  ·obtain ⟨rfl, rfl⟩ := e1
   rw [if_pos ⟨rfl, rfl⟩, if_neg (by omega), if_pos (by omega)]
  ·rw [if_neg e1]
   by_cases e2 : u = k + 1 ∧ v = 0
   ·obtain ⟨rfl, rfl⟩ := e2
    rw [if_pos ⟨rfl, rfl⟩, if_pos (by omega)]
   ·rw [if_neg e2]
    by_cases e3 : v = 0 ∧ 1 ≤ u ∧ u ≤ k
    ·rw [if_pos e3, if_pos (by omega)]
    ·rw [if_neg e3, if_neg (show ¬ (v = 0 ∧ 1 ≤ u ∧ u ≤ k + 1) by omega)]
     by_cases e4 : u = 0 ∧ 1 ≤ v ∧ v ≤ k
     ·rw [if_pos e4, if_pos (by omega)]
     ·rw [if_neg e4, if_neg (by omega)]
theorem Aim {m : Int} (hm : 1 < m) {a : List Int} (ha : ∀ x ∈ a, 0 ≤ x ∧ x < m) (a0 : at' a 0 = 0) (D : Nat) : smT a D D = suT m a D := Agz (Oo hm ha D D) (Ot (by omega) a D) fun u v h => by
 rw [Md a D u v (by omega), Acg hm ha D D (Nat.le_refl _), sumF]
 refine congrArg (· % m) ?_
 by_cases h1 : v = 0
 ·subst h1
  by_cases h2 : u = 0
  ·subst h2
   rw [if_neg (by omega), if_neg (by omega), if_pos rfl, a0]; rfl
  ·rw [if_pos (by omega), if_pos rfl, if_neg h2, Int.add_zero]
 ·rw [if_neg (by omega), if_neg h1, Int.zero_add]
  by_cases h2 : u = 0
  ·rw [if_pos (by omega), if_pos h2]
  ·rw [if_neg (by omega), if_neg h2]
set_option maxHeartbeats 4000000 in
theorem Rc (m : Int) (a : List Int) (D : Nat) (hm : 1 < m) (ha : ∀ x ∈ a, 0 ≤ x ∧ x < m) (hal : a.length = D + 1) (h1 : 1 ≤ D) (hD : D ≤ 800) : AFn Tryz.prog 218 [.int .i64 m, .sl false 2 (intL a)] (.sl true 27 (rowsO (smT a D D))) := by
 refine fO Tryz.func218 Tryz.ntmps218 (by rw [Tryz.results218]) fun C hP hM hC => ?_
 have hZ : AFn Tryz.prog 176 [.int .i64 D] (.sl true 27 (rowsO (zeT D))) := B2 D (by omega)
 have zq1 : IntKind.i64.wrap (((D + 1 : Nat) : Int) - 1) = (D : Int) := (by rw [wid _ (by omega) (by omega)]; omega)
 (repeat (first | ((with_reducible refine rC rfl fun K hK => ?_); simp only [go_sem, seval, ↓reduceIte, hal, zq1]; (first | refine hK _ _ _ ?_ | refine ⟨_, hZ, hK _ _ _ ?_⟩); clear hK K) | (with_reducible first | refine rN ?_ | refine sQ ?_ | refine tY hC hP ?_ | refine aY hC hM hP ?_ | refine kQ ?_ | refine lQ ?_ | refine eQ ?_ | refine bQ ?_ | refine cTa ?_ | refine cFa ?_) | simp only [qS, Nat.reduceEqDiff, ↓reduceIte]))
 refine AWP.loop (fun k : Nat => [(6, ⟨0, .val (.int .i64 (k + 1 : Nat))⟩), (5, ⟨1, .own (.sl true 27 (rowsO (smT a D k)))⟩), (1, ⟨0, .val (.sl false 2 (intL a))⟩)]) (fun k => k ≤ D) (fun k => D - k) 0 (Nat.zero_le _) (fun k => rfl) ?_ (fun k hk => ?_)
 ·simp [Sub, lk, smT]
 ·have p0 := Oo hm ha D k
  have p1 := p0.put (Af ha (show 0 < m by omega) (k + 1)) (k + 1) 0
  by_cases h : k < D
  ·have zq2 : ((k + 1 : Nat) : Int) < ((D + 1 : Nat) : Int) := (by omega); have zq3 : (0 : Int) ≤ 1 := (by omega); have zq4 : (1 : Int).toNat = 1 := rfl; have zq5 : (0 : Int) < ((D + 1 : Nat) : Int) := (by omega); have zq6 : (0 : Int) < ((D + 1 - (k + 1) : Nat) : Int) := (by omega); have zq7 : (0 : Int) < ((D - k : Nat) : Int) := (by omega); have zq8 := Ab a (k + 1) (by omega); have zq9 := Aa a (k + 1) (by omega); have zq10 : a.getD (k + 1) 0 = at' a (k + 1) := rfl; have zq11 := An (smT a D k) (k + 1) (by rw [(p0).len]; omega); have zq12 := Au (smT a D k) (k + 1) (by rw [(p0).len]; omega); have zq13 := B9 (smT a D k) (k + 1) (0) (at' a (k + 1)) (by rw [(p0).len]; omega); have zq14 := An (put2 (smT a D k) (k + 1) 0 (at' a (k + 1))) (0) (by rw [(p1).len]; omega); have zq15 := Au (put2 (smT a D k) (k + 1) 0 (at' a (k + 1))) (0) (by rw [(p1).len]; omega); have zq16 := B9 (put2 (smT a D k) (k + 1) 0 (at' a (k + 1))) (0) (k + 1) (at' a (k + 1)) (by rw [(p1).len]; omega); have zq17 : IntKind.i64.wrap (((k + 1 : Nat) : Int) + 1) = ((k + 1 + 1 : Nat) : Int) := (by rw [wid _ (by omega) (by omega)]; omega)
   (repeat (first | ((with_reducible refine rC rfl fun K hK => ?_); simp only [go_sem, seval, ↓reduceIte, hal, zq2, Int.natCast_nonneg, Int.toNat_natCast, Nat.mul_one, Int.le_refl, Int.toNat_zero, List.take_zero, Nat.zero_mul, zq3, zq4, Nat.sub_zero, zq5, zq6, zq7, zq8, zq9, zq10, Ai, (p0).len, zq11, zq12, (p0).row (k + 1) (by omega), Ae ((smT a D k).getD (k + 1) []) (0) (by rw [(p0).row _ (by omega)]; omega), Ab ((smT a D k).getD (k + 1) []) (0) (by rw [(p0).row _ (by omega)]; omega), zq13, Ai, (p1).len, zq14, zq15, (p1).row (0) (by omega), Ae ((put2 (smT a D k) (k + 1) 0 (at' a (k + 1))).getD (0) []) (k + 1) (by rw [(p1).row _ (by omega)]; omega), Ab ((put2 (smT a D k) (k + 1) 0 (at' a (k + 1))).getD (0) []) (k + 1) (by rw [(p1).row _ (by omega)]; omega), zq16, zq17]; refine hK _ _ _ ?_; clear hK K) | (with_reducible first | refine rN ?_ | refine sQ ?_ | refine tY hC hP ?_ | refine aY hC hM hP ?_ | refine kQ ?_ | refine lQ ?_ | refine eQ ?_ | refine bQ ?_ | refine cTa ?_ | refine cFa ?_) | simp only [qS, Nat.reduceEqDiff, ↓reduceIte]))
   exact ⟨k + 1, by omega, by omega, by simp [Sub, lk, smT]⟩
  ·have zq18 : ¬ ((k + 1 : Nat) : Int) < ((D + 1 : Nat) : Int) := (by omega)
   (repeat (first | ((with_reducible refine rC rfl fun K hK => ?_); simp only [go_sem, seval, ↓reduceIte, hal, zq18]; refine hK _ _ _ ?_; clear hK K) | (with_reducible first | refine rN ?_ | refine sQ ?_ | refine tY hC hP ?_ | refine aY hC hM hP ?_ | refine kQ ?_ | refine lQ ?_ | refine eQ ?_ | refine bQ ?_ | refine cTa ?_ | refine cFa ?_) | simp only [qS, Nat.reduceEqDiff, ↓reduceIte]))
   refine rt1 ?_
   rw [show k = D by omega]
theorem Kr (m : Int) (a : List Int) (D : Nat) (hm : 1 < m) (hm2 : m ≤ 10000) (ha : ∀ x ∈ a, 0 ≤ x ∧ x < m) (hal : a.length = D + 1) (a0 : at' a 0 = 0) (h1 : 1 ≤ D) (hD : D ≤ 800) : AFn Tryz.prog 143 [.int .i64 m, .sl false 2 (intL a)] (.sl true 27 (rowsO (lawT m a D (pc (suT m a D))))) := by
 refine fO Tryz.func143 Tryz.ntmps143 (by rw [Tryz.results143]) fun C hP hM hC => ?_
 have z : (0 : Int) < m := by omega
 have hu := Bv m (at' a 1) z
 have f := Dl z hu a D (D - 1)
 have hR := G0 m a D hm hm2 ha hal h1 (by omega)
 have hS := Rc m a D hm ha hal h1 hD
 rw [Aim hm ha a0] at hS
 have hO := Cu m (rvL m a D) (suT m a D) (D + 1) z hm2 (Ot z a D) f.2 (by rw [show (rvL m a D).length = D + 1 from f.1]; omega) (by omega) (by omega)
 rw [show (rvL m a D).length = D + 1 from f.1] at hO
 have zq1 : IntKind.i64.wrap (((D + 1 : Nat) : Int) - 1) = (D : Int) := (by rw [wid _ (by omega) (by omega)]; omega)
 (repeat (first | ((with_reducible refine rC rfl fun K hK => ?_); simp only [go_sem, seval, ↓reduceIte, hal, zq1]; (first | refine hK _ _ _ ?_ | refine ⟨_, hR, hK _ _ _ ?_⟩ | refine ⟨_, hS, hK _ _ _ ?_⟩ | refine ⟨_, hO, hK _ _ _ ?_⟩); clear hK K) | (with_reducible first | refine rN ?_ | refine sQ ?_ | refine tY hC hP ?_ | refine aY hC hM hP ?_ | refine kQ ?_ | refine lQ ?_ | refine eQ ?_ | refine bQ ?_ | refine cTa ?_ | refine cFa ?_) | simp only [qS, Nat.reduceEqDiff, ↓reduceIte]))
 refine rt1 ?_
 rfl
def crdC (m : Int) (a : List Int) : Int := if isSer m a = true then (if at' a 0 = 0 ∧ unB m (at' a 1) = true then 0 else 5) else 1
def lcT (m : Int) (a : List Int) : List (List Int) := lawT m a (a.length - 1) (pc (suT m a (a.length - 1)))
theorem Ia {m : Int} {a : List Int} (h : crdC m a = 0) : isSer m a = true ∧ at' a 0 = 0 ∧ unB m (at' a 1) = true := by
 unfold crdC at h
 split at h
 ·split at h
  ·exact ⟨by assumption, by assumption⟩
  ·cases h
 ·cases h
theorem S9 {m : Int} {a : List Int} (h1 : isSer m a = true) (h2 : at' a 0 = 0) (h3 : unB m (at' a 1) = true) : crdC m a = 0 := by
 rw [crdC, if_pos h1, if_pos ⟨h2, h3⟩]
theorem Cs {m : Int} {l : List Int} (h : isSer m l = true) : ∀ x ∈ l, 0 ≤ x ∧ x < m := fun x hx => by have := (Bt h).2.2.2.2 x hx; omega
theorem Ajh {m : Int} {a : List Int} (h : crdC m a = 0) : Crd m (a.length - 1) a := by
 obtain ⟨h1, h2, h3⟩ := Ia h
 have f := Bt h1
 have hn := Cs h1
 exact ⟨by omega, by omega, by omega, hn, h2, invC (by omega) (Af hn (by omega) 1) (Me h3)⟩
theorem Dx (m : Int) (a : List Int) (h : isSer m a = true) : AFn Tryz.prog 139 [.agg [.int .i64 m, .sl false 2 (intL a)]] (.bool (decide (at' a 0 = 0) && unB m (at' a 1))) := by
 refine fO Tryz.func139 Tryz.ntmps139 (by rw [Tryz.results139]) fun C hP hM hC => ?_
 have f := Bt h
 have hn := Cs h
 have b0 := Af hn (show 0 < m by omega) 0
 have b1 := Af hn (show 0 < m by omega) 1
 have hU := Jq (m := m) (a := at' a 1) (by omega) (by omega)
 by_cases e : at' a 0 = 0
 ·have zq1 : (0 : Int) < (a.length : Int) := (by omega); have zq2 : (1 : Int) < (a.length : Int) := (by omega); have zq3 := Aa a 0 (by omega); have zq4 : a.getD 0 0 = at' a 0 := rfl; have zq5 : (at' a 0 == 0) = true := (by rw [beq_iff_eq]; exact e); have zq6 : (0 : Int) ≤ 1 := (by omega); have zq7 : (1 : Int).toNat = 1 := rfl; have zq8 := Aa a 1 (by omega); have zq9 : a.getD 1 0 = at' a 1 := rfl
  (repeat (first | ((with_reducible refine rC rfl fun K hK => ?_); simp only [go_sem, seval, ↓reduceIte, Int.le_refl, Int.toNat_zero, zq1, zq2, zq3, zq4, zq5, zq6, zq7, zq8, zq9]; (first | refine hK _ _ _ ?_ | refine ⟨_, hU, hK _ _ _ ?_⟩); clear hK K) | (with_reducible first | refine rN ?_ | refine sQ ?_ | refine tY hC hP ?_ | refine aY hC hM hP ?_ | refine kQ ?_ | refine lQ ?_ | refine eQ ?_ | refine bQ ?_ | refine cTa ?_ | refine cFa ?_) | simp only [qS, Nat.reduceEqDiff, ↓reduceIte]))
  refine rt1 ?_
  rw [decide_eq_true e, Bool.true_and]
 ·have zq10 : (0 : Int) < (a.length : Int) := (by omega); have zq11 := Aa a 0 (by omega); have zq12 : a.getD 0 0 = at' a 0 := rfl; have zq13 : (at' a 0 == 0) = false := (by rw [beq_eq_false_iff_ne]; exact e)
  (repeat (first | ((with_reducible refine rC rfl fun K hK => ?_); simp only [go_sem, seval, ↓reduceIte, Int.le_refl, Int.toNat_zero, zq10, zq11, zq12, zq13]; (first | refine hK _ _ _ ?_ | refine ⟨_, hU, hK _ _ _ ?_⟩); clear hK K) | (with_reducible first | refine rN ?_ | refine sQ ?_ | refine tY hC hP ?_ | refine aY hC hM hP ?_ | refine kQ ?_ | refine lQ ?_ | refine eQ ?_ | refine bQ ?_ | refine cTa ?_ | refine cFa ?_) | simp only [qS, Nat.reduceEqDiff, ↓reduceIte]))
  refine rt1 ?_
  rw [decide_eq_false e, Bool.false_and]
theorem Jn (m : Int) (a : List Int) (h : crdC m a = 0) : AFn Tryz.prog 49 [.agg [.int .i64 m, .sl false 2 (intL a)]] (.tup [.agg [.int .i64 m, .sl true 27 (rowsO (lcT m a))], .int .i64 0]) := by
 refine fO Tryz.func49 Tryz.ntmps49 (by rw [Tryz.results49]) fun C hP hM hC => ?_
 obtain ⟨h1, h2, h3⟩ := Ia h
 have f := Bt h1
 have hA := Cr m a (by omega)
 have hKq := Dx m a h1
 rw [h1] at hA
 rw [decide_eq_true h2, h3, Bool.true_and] at hKq
 have hL := K4 m a (a.length - 1) (by omega) f.2.2.2.1 (Cs h1) (by omega) (by omega) (by omega)
 (repeat (first | ((with_reducible refine rC rfl fun K hK => ?_); simp only [go_sem, seval, ↓reduceIte]; (first | refine hK _ _ _ ?_ | refine ⟨_, hA, hK _ _ _ ?_⟩ | refine ⟨_, hKq, hK _ _ _ ?_⟩ | refine ⟨_, hL, hK _ _ _ ?_⟩); clear hK K) | (with_reducible first | refine rN ?_ | refine sQ ?_ | refine tY hC hP ?_ | refine aY hC hM hP ?_ | refine kQ ?_ | refine lQ ?_ | refine eQ ?_ | refine bQ ?_ | refine cTa ?_ | refine cFa ?_) | simp only [qS, Nat.reduceEqDiff, ↓reduceIte]))
 refine rt2 ?_
 rfl
theorem J5 (m : Int) (a : List Int) (hl : a.length ≤ 1000) (h : crdC m a ≠ 0) : AFn Tryz.prog 49 [.agg [.int .i64 m, .sl false 2 (intL a)]] (.tup [.agg [.int .i64 0, .nil], .int .i64 (crdC m a)]) := by
 refine fO Tryz.func49 Tryz.ntmps49 (by rw [Tryz.results49]) fun C hP hM hC => ?_
 have hA := Cr m a (by omega)
 cases h1 : isSer m a with
 | false =>
  rw [h1] at hA
  (repeat (first | ((with_reducible refine rC rfl fun K hK => ?_); simp only [go_sem, seval, ↓reduceIte]; (first | refine hK _ _ _ ?_ | refine ⟨_, hA, hK _ _ _ ?_⟩); clear hK K) | (with_reducible first | refine rN ?_ | refine sQ ?_ | refine tY hC hP ?_ | refine aY hC hM hP ?_ | refine kQ ?_ | refine lQ ?_ | refine eQ ?_ | refine bQ ?_ | refine cTa ?_ | refine cFa ?_) | simp only [qS, Nat.reduceEqDiff, ↓reduceIte]))
  refine rt2 ?_
  rw [crdC, h1, if_neg (by decide)]
 | true =>
  have hKq := Dx m a h1
  rw [h1] at hA
  have hn : (decide (at' a 0 = 0) && unB m (at' a 1)) = false := by
   cases hb : (decide (at' a 0 = 0) && unB m (at' a 1)) with
   | false => rfl
   | true =>
    rw [Bool.and_eq_true, decide_eq_true_eq] at hb
    exact absurd (S9 h1 hb.1 hb.2) h
  rw [hn] at hKq
  (repeat (first | ((with_reducible refine rC rfl fun K hK => ?_); simp only [go_sem, seval, ↓reduceIte]; (first | refine hK _ _ _ ?_ | refine ⟨_, hA, hK _ _ _ ?_⟩ | refine ⟨_, hKq, hK _ _ _ ?_⟩); clear hK K) | (with_reducible first | refine rN ?_ | refine sQ ?_ | refine tY hC hP ?_ | refine aY hC hM hP ?_ | refine kQ ?_ | refine lQ ?_ | refine eQ ?_ | refine bQ ?_ | refine cTa ?_ | refine cFa ?_) | simp only [qS, Nat.reduceEqDiff, ↓reduceIte]))
  refine rt2 ?_
  rw [crdC, if_pos h1, if_neg (fun e => by rw [decide_eq_true e.1, e.2] at hn; cases hn)]
theorem Jt (m : Int) (a : List Int) (h : crdC m a = 0) : AFn Tryz.prog 50 [.agg [.int .i64 m, .sl false 2 (intL a)]] (.tup [.agg [.int .i64 m, .sl true 27 (rowsO (lcT m a))], .int .i64 0]) := by
 refine fO Tryz.func50 Tryz.ntmps50 (by rw [Tryz.results50]) fun C hP hM hC => ?_
 obtain ⟨h1, h2, h3⟩ := Ia h
 have f := Bt h1
 have hn := Cs h1
 have b1 := Af hn (show 0 < m by omega) 1
 have hA := D2 m a (by omega)
 have hKq := Ib m a (by omega)
 have hU := Gk (m := m) (a := at' a 1) (by omega) (by omega)
 rw [h1] at hA
 rw [h1, show (a.getD 0 0 == 0) = true by rw [beq_iff_eq]; exact h2, Bool.true_and] at hKq
 rw [h3] at hU
 have hL := Kr m a (a.length - 1) (by omega) f.2.2.2.1 hn (by omega) h2 (by omega) (by omega)
 have zq1 : (1 : Int) < (a.length : Int) := (by omega); have zq2 : (0 : Int) ≤ 1 := (by omega); have zq3 : (1 : Int).toNat = 1 := rfl; have zq4 := Aa a 1 (by omega); have zq5 : a.getD 1 0 = at' a 1 := rfl
 (repeat (first | ((with_reducible refine rC rfl fun K hK => ?_); simp only [go_sem, seval, ↓reduceIte, zq1, zq2, zq3, zq4, zq5]; (first | refine hK _ _ _ ?_ | refine ⟨_, hA, hK _ _ _ ?_⟩ | refine ⟨_, hKq, hK _ _ _ ?_⟩ | refine ⟨_, hU, hK _ _ _ ?_⟩ | refine ⟨_, hL, hK _ _ _ ?_⟩ | refine ⟨_, Du _ _, hK _ _ _ ?_⟩); clear hK K) | (with_reducible first | refine rN ?_ | refine sQ ?_ | refine tY hC hP ?_ | refine aY hC hM hP ?_ | refine kQ ?_ | refine lQ ?_ | refine eQ ?_ | refine bQ ?_ | refine cTa ?_ | refine cFa ?_) | simp only [qS, Nat.reduceEqDiff, ↓reduceIte]))
 refine rt2 ?_
 rfl
theorem J6 (m : Int) (a : List Int) (hl : a.length ≤ 1000) (h : crdC m a ≠ 0) : AFn Tryz.prog 50 [.agg [.int .i64 m, .sl false 2 (intL a)]] (.tup [.agg [.int .i64 0, .nil], .int .i64 (crdC m a)]) := by
 refine fO Tryz.func50 Tryz.ntmps50 (by rw [Tryz.results50]) fun C hP hM hC => ?_
 have hA := D2 m a (by omega)
 have hKq := Ib m a (by omega)
 cases h1 : isSer m a with
 | false =>
  rw [h1] at hA
  (repeat (first | ((with_reducible refine rC rfl fun K hK => ?_); simp only [go_sem, seval, ↓reduceIte]; (first | refine hK _ _ _ ?_ | refine ⟨_, hA, hK _ _ _ ?_⟩); clear hK K) | (with_reducible first | refine rN ?_ | refine sQ ?_ | refine tY hC hP ?_ | refine aY hC hM hP ?_ | refine kQ ?_ | refine lQ ?_ | refine eQ ?_ | refine bQ ?_ | refine cTa ?_ | refine cFa ?_) | simp only [qS, Nat.reduceEqDiff, ↓reduceIte]))
  refine rt2 ?_
  rw [crdC, h1, if_neg (by decide)]
 | true =>
  have f := Bt h1
  have hn := Cs h1
  have b1 := Af hn (show 0 < m by omega) 1
  have hU := Gk (m := m) (a := at' a 1) (by omega) (by omega)
  rw [h1] at hA
  rw [h1, Bool.true_and] at hKq
  by_cases e : at' a 0 = 0
  ·have h3 : unB m (at' a 1) = false := by
    cases hb : unB m (at' a 1) with
    | false => rfl
    | true => exact absurd (S9 h1 e hb) h
   rw [show (a.getD 0 0 == 0) = true by rw [beq_iff_eq]; exact e] at hKq
   rw [h3] at hU
   have zq1 : (1 : Int) < (a.length : Int) := (by omega); have zq2 : (0 : Int) ≤ 1 := (by omega); have zq3 : (1 : Int).toNat = 1 := rfl; have zq4 := Aa a 1 (by omega); have zq5 : a.getD 1 0 = at' a 1 := rfl
   (repeat (first | ((with_reducible refine rC rfl fun K hK => ?_); simp only [go_sem, seval, ↓reduceIte, zq1, zq2, zq3, zq4, zq5]; (first | refine hK _ _ _ ?_ | refine ⟨_, hA, hK _ _ _ ?_⟩ | refine ⟨_, hKq, hK _ _ _ ?_⟩ | refine ⟨_, hU, hK _ _ _ ?_⟩); clear hK K) | (with_reducible first | refine rN ?_ | refine sQ ?_ | refine tY hC hP ?_ | refine aY hC hM hP ?_ | refine kQ ?_ | refine lQ ?_ | refine eQ ?_ | refine bQ ?_ | refine cTa ?_ | refine cFa ?_) | simp only [qS, Nat.reduceEqDiff, ↓reduceIte]))
   refine rt2 ?_
   rw [crdC, if_pos h1, if_neg (fun e => by rw [h3] at e; cases e.2)]
  ·rw [show (a.getD 0 0 == 0) = false by rw [beq_eq_false_iff_ne]; exact e] at hKq
   (repeat (first | ((with_reducible refine rC rfl fun K hK => ?_); simp only [go_sem, seval, ↓reduceIte]; (first | refine hK _ _ _ ?_ | refine ⟨_, hA, hK _ _ _ ?_⟩ | refine ⟨_, hKq, hK _ _ _ ?_⟩); clear hK K) | (with_reducible first | refine rN ?_ | refine sQ ?_ | refine tY hC hP ?_ | refine aY hC hM hP ?_ | refine kQ ?_ | refine lQ ?_ | refine eQ ?_ | refine bQ ?_ | refine cTa ?_ | refine cFa ?_) | simp only [qS, Nat.reduceEqDiff, ↓reduceIte]))
   refine rt2 ?_
   rw [crdC, if_pos h1, if_neg (fun h => e h.1)]
def unsB (m : Int) (n : Nat) : Bool := (List.range n).all (fun k => unB m ((k + 1 : Nat) : Int))
theorem Qa {m : Int} {n : Nat} (h : unsB m n = true) : ∀ k, k < n → unB m ((k + 1 : Nat) : Int) = true := fun k hk => List.all_eq_true.1 h k (List.mem_range.2 hk)
theorem Sf {m : Int} {n : Nat} (h : ∀ k, k < n → unB m ((k + 1 : Nat) : Int) = true) : unsB m n = true := List.all_eq_true.2 fun k hk => h k (List.mem_range.1 hk)
theorem Xw {m : Int} {n k : Nat} (hk : k < n) (h : unB m ((k + 1 : Nat) : Int) = false) : unsB m n = false := by
 cases hb : unsB m n with
 | false => rfl
 | true => have := Qa hb k hk; rw [h] at this; cases this
set_option maxHeartbeats 2000000 in
theorem H7 (m : Int) (n : Nat) (hm : 0 ≤ m ∧ m ≤ 10000) (hn : n ≤ 1000) : AFn Tryz.prog 153 [.int .i64 m, .int .i64 n] (.bool (unsB m n)) := by
 refine fO Tryz.func153 Tryz.ntmps153 (by rw [Tryz.results153]) fun C hP hM hC => ?_
 (repeat (first | ((with_reducible refine rC rfl fun K hK => ?_); simp only [go_sem, seval, ↓reduceIte]; refine hK _ _ _ ?_; clear hK K) | (with_reducible first | refine rN ?_ | refine sQ ?_ | refine tY hC hP ?_ | refine aY hC hM hP ?_ | refine kQ ?_ | refine lQ ?_ | refine eQ ?_ | refine bQ ?_ | refine cTa ?_ | refine cFa ?_) | simp only [qS, Nat.reduceEqDiff, ↓reduceIte]))
 refine AWP.loop (fun i : Nat => [(5, ⟨0, .val (.int .i64 (i + 1 : Nat))⟩), (0, ⟨0, .val (.int .i64 m)⟩), (1, ⟨0, .val (.int .i64 n)⟩)]) (fun i => i ≤ n ∧ ∀ k, k < i → unB m ((k + 1 : Nat) : Int) = true) (fun i => n - i) 0 ⟨Nat.zero_le _, fun k hk => absurd hk (Nat.not_lt_zero _)⟩ (fun i => rfl) ?_ (fun i hi => ?_)
 ·simp [Sub, lk]
 ·by_cases h : i < n
  ·have hU := Jq (m := m) (a := ((i + 1 : Nat) : Int)) hm (by omega)
   cases hb : unB m ((i + 1 : Nat) : Int) with
   | false =>
    rw [hb] at hU
    have zq1 : ((i + 1 : Nat) : Int) ≤ (n : Int) := (by omega)
    (repeat (first | ((with_reducible refine rC rfl fun K hK => ?_); simp only [go_sem, seval, ↓reduceIte, zq1]; (first | refine hK _ _ _ ?_ | refine ⟨_, hU, hK _ _ _ ?_⟩); clear hK K) | (with_reducible first | refine rN ?_ | refine sQ ?_ | refine tY hC hP ?_ | refine aY hC hM hP ?_ | refine kQ ?_ | refine lQ ?_ | refine eQ ?_ | refine bQ ?_ | refine cTa ?_ | refine cFa ?_) | simp only [qS, Nat.reduceEqDiff, ↓reduceIte]))
    refine rt1 ?_
    rw [Xw h hb]
   | true =>
    rw [hb] at hU
    have zq2 : ((i + 1 : Nat) : Int) ≤ (n : Int) := (by omega); have zq3 : IntKind.i64.wrap (((i + 1 : Nat) : Int) + 1) = ((i + 1 + 1 : Nat) : Int) := (by rw [wid _ (by omega) (by omega)]; omega)
    (repeat (first | ((with_reducible refine rC rfl fun K hK => ?_); simp only [go_sem, seval, ↓reduceIte, zq2, zq3]; (first | refine hK _ _ _ ?_ | refine ⟨_, hU, hK _ _ _ ?_⟩); clear hK K) | (with_reducible first | refine rN ?_ | refine sQ ?_ | refine tY hC hP ?_ | refine aY hC hM hP ?_ | refine kQ ?_ | refine lQ ?_ | refine eQ ?_ | refine bQ ?_ | refine cTa ?_ | refine cFa ?_) | simp only [qS, Nat.reduceEqDiff, ↓reduceIte]))
    exact ⟨i + 1, ⟨h, fun k hk => (Nat.lt_succ_iff_lt_or_eq.1 hk).elim (hi.2 k) (fun e => by rw [e]; exact hb)⟩, by omega, by simp [Sub, lk]⟩
  ·have zq4 : ¬ ((i + 1 : Nat) : Int) ≤ (n : Int) := (by omega)
   (repeat (first | ((with_reducible refine rC rfl fun K hK => ?_); simp only [go_sem, seval, ↓reduceIte, zq4]; refine hK _ _ _ ?_; clear hK K) | (with_reducible first | refine rN ?_ | refine sQ ?_ | refine tY hC hP ?_ | refine aY hC hM hP ?_ | refine kQ ?_ | refine lQ ?_ | refine eQ ?_ | refine bQ ?_ | refine cTa ?_ | refine cFa ?_) | simp only [qS, Nat.reduceEqDiff, ↓reduceIte]))
   refine rt1 ?_
   rw [Sf fun k hk => hi.2 k (by omega)]
set_option maxHeartbeats 2000000 in
theorem Gl (m : Int) (n : Nat) (hm : 0 ≤ m ∧ m ≤ 10000) (hn : n ≤ 1000) : AFn Tryz.prog 155 [.int .i64 m, .int .i64 n] (.bool (unsB m n)) := by
 refine fO Tryz.func155 Tryz.ntmps155 (by rw [Tryz.results155]) fun C hP hM hC => ?_
 (repeat (first | ((with_reducible refine rC rfl fun K hK => ?_); simp only [go_sem, seval, ↓reduceIte]; refine hK _ _ _ ?_; clear hK K) | (with_reducible first | refine rN ?_ | refine sQ ?_ | refine tY hC hP ?_ | refine aY hC hM hP ?_ | refine kQ ?_ | refine lQ ?_ | refine eQ ?_ | refine bQ ?_ | refine cTa ?_ | refine cFa ?_) | simp only [qS, Nat.reduceEqDiff, ↓reduceIte]))
 refine AWP.loop (fun i : Nat => [(5, ⟨0, .val (.int .i64 (i + 1 : Nat))⟩), (0, ⟨0, .val (.int .i64 m)⟩), (1, ⟨0, .val (.int .i64 n)⟩)]) (fun i => i ≤ n ∧ ∀ k, k < i → unB m ((k + 1 : Nat) : Int) = true) (fun i => n - i) 0 ⟨Nat.zero_le _, fun k hk => absurd hk (Nat.not_lt_zero _)⟩ (fun i => rfl) ?_ (fun i hi => ?_)
 ·simp [Sub, lk]
 ·by_cases h : i < n
  ·have hU := Gk (m := m) (a := ((i + 1 : Nat) : Int)) hm (by omega)
   cases hb : unB m ((i + 1 : Nat) : Int) with
   | false =>
    rw [hb] at hU
    have zq1 : ((i + 1 : Nat) : Int) ≤ (n : Int) := (by omega)
    (repeat (first | ((with_reducible refine rC rfl fun K hK => ?_); simp only [go_sem, seval, ↓reduceIte, zq1]; (first | refine hK _ _ _ ?_ | refine ⟨_, hU, hK _ _ _ ?_⟩); clear hK K) | (with_reducible first | refine rN ?_ | refine sQ ?_ | refine tY hC hP ?_ | refine aY hC hM hP ?_ | refine kQ ?_ | refine lQ ?_ | refine eQ ?_ | refine bQ ?_ | refine cTa ?_ | refine cFa ?_) | simp only [qS, Nat.reduceEqDiff, ↓reduceIte]))
    refine rt1 ?_
    rw [Xw h hb]
   | true =>
    rw [hb] at hU
    have zq2 : ((i + 1 : Nat) : Int) ≤ (n : Int) := (by omega); have zq3 : IntKind.i64.wrap (((i + 1 : Nat) : Int) + 1) = ((i + 1 + 1 : Nat) : Int) := (by rw [wid _ (by omega) (by omega)]; omega)
    (repeat (first | ((with_reducible refine rC rfl fun K hK => ?_); simp only [go_sem, seval, ↓reduceIte, zq2, zq3]; (first | refine hK _ _ _ ?_ | refine ⟨_, hU, hK _ _ _ ?_⟩); clear hK K) | (with_reducible first | refine rN ?_ | refine sQ ?_ | refine tY hC hP ?_ | refine aY hC hM hP ?_ | refine kQ ?_ | refine lQ ?_ | refine eQ ?_ | refine bQ ?_ | refine cTa ?_ | refine cFa ?_) | simp only [qS, Nat.reduceEqDiff, ↓reduceIte]))
    exact ⟨i + 1, ⟨h, fun k hk => (Nat.lt_succ_iff_lt_or_eq.1 hk).elim (hi.2 k) (fun e => by rw [e]; exact hb)⟩, by omega, by simp [Sub, lk]⟩
  ·have zq4 : ¬ ((i + 1 : Nat) : Int) ≤ (n : Int) := (by omega)
   (repeat (first | ((with_reducible refine rC rfl fun K hK => ?_); simp only [go_sem, seval, ↓reduceIte, zq4]; refine hK _ _ _ ?_; clear hK K) | (with_reducible first | refine rN ?_ | refine sQ ?_ | refine tY hC hP ?_ | refine aY hC hM hP ?_ | refine kQ ?_ | refine lQ ?_ | refine eQ ?_ | refine bQ ?_ | refine cTa ?_ | refine cFa ?_) | simp only [qS, Nat.reduceEqDiff, ↓reduceIte]))
   refine rt1 ?_
   rw [Sf fun k hk => hi.2 k (by omega)]
theorem Xc {m : Int} {n : Nat} (hm : 1 < m) (h : unsB m n = true) : (n : Int) < m := by
 apply Classical.byContradiction
 intro hlt
 have h1 := Me (Qa h (m.toNat - 1) (by omega))
 rw [show (((m.toNat - 1 + 1 : Nat) : Int)).toNat = m.toNat by omega, Nat.gcd_self] at h1
 omega
def igF (m : Int) (w : List Int) (j : Nat) : Int := if j = 0 then 0 else at' w (j - 1) * invL m (j : Int) % m
def igL (m : Int) (w : List Int) : List Int := tab (w.length + 1) (igF m w)
theorem Agu {m : Int} (hm : 0 < m) (w : List Int) : (igL m w).length = w.length + 1 ∧ ∀ x ∈ igL m w, 0 ≤ x ∧ x < m := ⟨Ad _ _, fun x hx => by
 obtain ⟨i, _, rfl⟩ := Cb.1 hx
 unfold igF
 split
 ·omega
 ·exact As _ m hm⟩
set_option maxHeartbeats 4000000 in
theorem Hj (m : Int) (w : List Int) (n : Nat) (hm : 1 < m) (hm2 : m ≤ 10000) (hw : ∀ x ∈ w, 0 ≤ x ∧ x < m) (hl : w.length = n) (hn : n ≤ 100) (hlt : (n : Int) < m) : AFn Tryz.prog 154 [.agg [.int .i64 m, .sl false 2 (intL w)]] (.agg [.int .i64 m, .sl true 2 (intL (igL m w))]) := by
 refine fO Tryz.func154 Tryz.ntmps154 (by rw [Tryz.results154]) fun C hP hM hC => ?_
 have z : (0 : Int) < m := by omega
 have hDg := At m w (by omega)
 have hZ := C9 m n (n + 1) (by omega) (by omega)
 have e0 : tab (n + 1) (fun _ => 0) = tab (n + 1) (fun j => if j < 0 + 1 then igF m w j else 0) := Bf fun j hj => by
  by_cases e : j < 0 + 1
  ·rw [if_pos e, igF, if_pos (by omega)]
  ·rw [if_neg e]
 rw [e0] at hZ
 rw [hl] at hDg
 have zq1 : IntKind.i64.wrap ((n : Int) - 1 + 1) = (n : Int) := (by rw [wid _ (by omega) (by omega)]; omega)
 (repeat (first | ((with_reducible refine rC rfl fun K hK => ?_); simp only [go_sem, seval, ↓reduceIte, zq1, hl]; (first | refine hK _ _ _ ?_ | refine ⟨_, hDg, hK _ _ _ ?_⟩ | refine ⟨_, hZ, hK _ _ _ ?_⟩); clear hK K) | (with_reducible first | refine rN ?_ | refine sQ ?_ | refine tY hC hP ?_ | refine aY hC hM hP ?_ | refine kQ ?_ | refine lQ ?_ | refine eQ ?_ | refine bQ ?_ | refine cTa ?_ | refine cFa ?_) | simp only [qS, Nat.reduceEqDiff, ↓reduceIte]))
 refine AWP.loop (fun i : Nat => [(15, ⟨0, .val (.int .i64 i)⟩), (14, ⟨0, .val (.int .i64 n)⟩), (13, ⟨0, .val (.sl false 2 (intL w))⟩), (3, ⟨2, .own (.box 29 (.agg [.int .i64 m, .sl true 2 (intL (tab (n + 1) (fun j => if j < i + 1 then igF m w j else 0)))]))⟩), (1, ⟨1, .own (.box 29 (.agg [.int .i64 m, .sl false 2 (intL w)]))⟩), (2, ⟨1, .own (.box 29 (.agg [.int .i64 0, .nil]))⟩)]) (fun i => i ≤ n) (fun i => n - i) 0 (Nat.zero_le _) (fun i => rfl) ?_ (fun i hi => ?_)
 ·simp [Sub, lk]
 ·by_cases h : i < n
  ·have b1 := Af hw z i
   have iB := Bv m ((i + 1 : Nat) : Int) z
   have hMq := Co ((i + 1 : Nat) : Int) m z (by omega)
   rw [Int.emod_eq_of_lt (by omega) (by omega)] at hMq
   have hI := Fv m ((i + 1 : Nat) : Int) z (by omega)
   have hmul : 0 ≤ at' w i * invL m ((i + 1 : Nat) : Int) ∧ at' w i * invL m ((i + 1 : Nat) : Int) ≤ 10000 * 10000 := ⟨Int.mul_nonneg b1.1 iB.1, Int.mul_le_mul (by omega) (by omega) iB.1 (by omega)⟩
   have i1 : IntKind.i64.wrap ((i : Int) + 1) = ((i + 1 : Nat) : Int) := by rw [wid _ (by omega) (by omega)]; omega
   have i2 : IntKind.i64.wrap ((i + 1 : Nat) : Int) = ((i + 1 : Nat) : Int) := wid _ (by omega) (by omega)
   have hlen : (tab (n + 1) (fun j => if j < i + 1 then igF m w j else 0)).length = n + 1 := Ad _ _
   have hst : (tab (n + 1) (fun j => if j < i + 1 then igF m w j else 0)).set (i + 1) (at' w i * invL m ((i + 1 : Nat) : Int) % m) = tab (n + 1) (fun j => if j < i + 1 + 1 then igF m w j else 0) := by
    rw [← No (i := i + 1), igF, if_neg (by omega), Nat.add_sub_cancel]
   have zq2 : (i : Int) < (n : Int) := (by omega); have zq3 := Aa w i (by omega); have zq4 : w.getD i 0 = at' w i := rfl; have zq5 : ((i + 1 : Nat) : Int) < ((n + 1 : Nat) : Int) := (by omega); have zq6 := Ab (tab (n + 1) (fun j => if j < i + 1 then igF m w j else 0)) (i + 1) (by omega); have zq7 := Ae (tab (n + 1) (fun j => if j < i + 1 then igF m w j else 0)) (i + 1) (by omega); have zq8 := wid (at' w i * invL m ((i + 1 : Nat) : Int)) (by omega) (by omega); have zq9 := tm (at' w i * invL m ((i + 1 : Nat) : Int)) m hmul.1; have zq10 : m ≠ 0 := (by omega)
   (repeat (first | ((with_reducible refine rC rfl fun K hK => ?_); simp only [go_sem, seval, ↓reduceIte, zq2, hl, Int.natCast_nonneg, Int.toNat_natCast, Nat.mul_one, zq3, zq4, i1, i2, hlen, zq5, zq6, zq7, zq8, zq9, zq10, Az, hst]; (first | refine hK _ _ _ ?_ | refine ⟨_, hMq, hK _ _ _ ?_⟩ | refine ⟨_, hI, hK _ _ _ ?_⟩); clear hK K) | (with_reducible first | refine rN ?_ | refine sQ ?_ | refine tY hC hP ?_ | refine aY hC hM hP ?_ | refine kQ ?_ | refine lQ ?_ | refine eQ ?_ | refine bQ ?_ | refine cTa ?_ | refine cFa ?_) | simp only [qS, Nat.reduceEqDiff, ↓reduceIte]))
   exact ⟨i + 1, h, by omega, by simp [Sub, lk]⟩
  ·have zq11 : ¬ (i : Int) < (n : Int) := (by omega)
   (repeat (first | ((with_reducible refine rC rfl fun K hK => ?_); simp only [go_sem, seval, ↓reduceIte, zq11]; refine hK _ _ _ ?_; clear hK K) | (with_reducible first | refine rN ?_ | refine sQ ?_ | refine tY hC hP ?_ | refine aY hC hM hP ?_ | refine kQ ?_ | refine lQ ?_ | refine eQ ?_ | refine bQ ?_ | refine cTa ?_ | refine cFa ?_) | simp only [qS, Nat.reduceEqDiff, ↓reduceIte]))
   refine rt1 ?_
   rw [show i = n by omega, igL, hl, Nt (Nat.le_refl _)]
set_option maxHeartbeats 4000000 in
theorem Kx (m : Int) (w : List Int) (n : Nat) (hm : 1 < m) (hm2 : m ≤ 10000) (hw : ∀ x ∈ w, 0 ≤ x ∧ x < m) (hl : w.length = n) (hn : n ≤ 100) : AFn Tryz.prog 156 [.int .i64 m, .sl false 2 (intL w)] (.sl true 2 (intL (igL m w))) := by
 refine fO Tryz.func156 Tryz.ntmps156 (by rw [Tryz.results156]) fun C hP hM hC => ?_
 have z : (0 : Int) < m := by omega
 have e0 : [T.int .i64 0] = intL (tab (0 + 1) (igF m w)) := by simp [tab, intL, igF]
 (repeat (first | ((with_reducible refine rC rfl fun K hK => ?_); simp only [go_sem, seval, ↓reduceIte, e0]; refine hK _ _ _ ?_; clear hK K) | (with_reducible first | refine rN ?_ | refine sQ ?_ | refine tY hC hP ?_ | refine aY hC hM hP ?_ | refine kQ ?_ | refine lQ ?_ | refine eQ ?_ | refine bQ ?_ | refine cTa ?_ | refine cFa ?_) | simp only [qS, Nat.reduceEqDiff, ↓reduceIte]))
 refine AWP.loop (fun v : Nat × Nat => [(6, ⟨0, .val (.int .i64 v.1)⟩), (5, ⟨v.2, .own (.sl true 2 (intL (tab (v.1 + 1) (igF m w))))⟩), (0, ⟨0, .val (.int .i64 m)⟩), (1, ⟨0, .val (.sl false 2 (intL w))⟩)]) (fun v => v.1 ≤ n) (fun v => n - v.1) (0, 1) (Nat.zero_le _) (fun i => rfl) ?_ (fun v hv => ?_)
 ·simp [Sub, lk]
 ·obtain ⟨i, v⟩ := v
  simp only at hv ⊢
  by_cases h : i < n
  ·have b1 := Af hw z i
   have iB := Bv m ((i + 1 : Nat) : Int) z
   have hI := E7 m ((i + 1 : Nat) : Int) z (by omega)
   have hmul : 0 ≤ at' w i * invL m ((i + 1 : Nat) : Int) ∧ at' w i * invL m ((i + 1 : Nat) : Int) ≤ 10000 * 10000 := ⟨Int.mul_nonneg b1.1 iB.1, Int.mul_le_mul (by omega) (by omega) iB.1 (by omega)⟩
   have i1 : IntKind.i64.wrap ((i : Int) + 1) = ((i + 1 : Nat) : Int) := by rw [wid _ (by omega) (by omega)]; omega
   have i2 : IntKind.i64.wrap (i : Int) = (i : Int) := wid _ (by omega) (by omega)
   have hlen : (tab (i + 1) (igF m w)).length = i + 1 := Ad _ _
   have hst : tab (i + 1) (igF m w) ++ [at' w i * invL m ((i + 1 : Nat) : Int) % m] = tab (i + 1 + 1) (igF m w) := Abv (by rw [igF, if_neg (by omega), Nat.add_sub_cancel])
   have zq1 : (i : Int) < (n : Int) := (by omega); have zq2 := Aa w i (by omega); have zq3 : w.getD i 0 = at' w i := rfl; have zq4 := wid (at' w i * invL m ((i + 1 : Nat) : Int)) (by omega) (by omega); have zq5 := tm (at' w i * invL m ((i + 1 : Nat) : Int)) m hmul.1; have zq6 : m ≠ 0 := (by omega); have zq7 : i + 1 + 1 ≤ 1099511627776 := (by omega); have zq8 : (i + 1 + 1) * 8 ≤ 140737488355328 := (by omega)
   (repeat (first | ((with_reducible refine rC rfl fun K hK => ?_); simp only [go_sem, seval, ↓reduceIte, hl, zq1, Int.natCast_nonneg, Int.toNat_natCast, zq2, zq3, i1, i2, zq4, zq5, zq6, Cc, hlen, hst, zq7, zq8]; (first | refine hK _ _ _ ?_ | refine ⟨_, hI, hK _ _ _ ?_⟩); clear hK K) | (with_reducible first | refine rN ?_ | refine sQ ?_ | refine tY hC hP ?_ | refine aY hC hM hP ?_ | refine kQ ?_ | refine lQ ?_ | refine eQ ?_ | refine bQ ?_ | refine cTa ?_ | refine cFa ?_) | simp only [qS, Nat.reduceEqDiff, ↓reduceIte]))
   exact ⟨(i + 1, v + 1), by simp only; omega, by simp only; omega, by simp [Sub, lk]⟩
  ·have zq9 : ¬ (i : Int) < (n : Int) := (by omega)
   (repeat (first | ((with_reducible refine rC rfl fun K hK => ?_); simp only [go_sem, seval, ↓reduceIte, hl, zq9]; refine hK _ _ _ ?_; clear hK K) | (with_reducible first | refine rN ?_ | refine sQ ?_ | refine tY hC hP ?_ | refine aY hC hM hP ?_ | refine kQ ?_ | refine lQ ?_ | refine eQ ?_ | refine bQ ?_ | refine cTa ?_ | refine cFa ?_) | simp only [qS, Nat.reduceEqDiff, ↓reduceIte]))
   refine rt1 ?_
   rw [show i = n by omega, igL, hl]
def ldC (m : Int) (w : List Int) : Int := if isSer m w = true then (if unB m (at' w 0) = true ∧ w.length ≤ 10 ∧ unsB m w.length = true then 0 else 5) else 1
theorem F2 {m : Int} {w : List Int} (h : ldC m w = 0) : isSer m w = true ∧ unB m (at' w 0) = true ∧ w.length ≤ 10 ∧ unsB m w.length = true := by
 unfold ldC at h
 split at h
 ·split at h
  ·exact ⟨by assumption, by assumption⟩
  ·cases h
 ·cases h
theorem Xj {m : Int} (hm : 1 < m) : invL m 1 = 1 := by
 have h1 := invC hm (a := 1) (by omega) (by rw [show (1 : Int).toNat = 1 from rfl, Nat.gcd_one_left])
 have hb := Bv m 1 (by omega)
 rwa [Int.mul_one, Int.emod_eq_of_lt hb.1 hb.2, Int.emod_eq_of_lt (by omega) hm] at h1
theorem S1 {m : Int} (w : List Int) {j : Nat} (h : j < w.length + 1) : at' (igL m w) j = igF m w j := by rw [igL, A4 h]
theorem Ahf {m : Int} (hm : 1 < m) {w : List Int} (hw : ∀ x ∈ w, 0 ≤ x ∧ x < m) (hl : 0 < w.length) : at' (igL m w) 1 = at' w 0 := by
 have hb := Af hw (show 0 < m by omega) 0
 rw [S1 w (by omega), igF, if_neg (by omega)]
 rw [show ((1 : Nat) : Int) = 1 from rfl, Xj hm, Int.mul_one, Nat.sub_self, Int.emod_eq_of_lt hb.1 hb.2]
theorem Rr {m : Int} {w : List Int} (h : ldC m w = 0) : Crd m w.length (igL m w) := by
 obtain ⟨h1, h2, h3, h4⟩ := F2 h
 have f := Bt h1
 have hn := Cs h1
 have g := Agu (show 0 < m by omega) w
 refine ⟨by omega, by omega, g.1, g.2, by rw [S1 w (by omega), igF, if_pos rfl], ?_⟩
 rw [Ahf (by omega) hn (by omega)]
 exact invC (by omega) (Af hn (by omega) 0) (Me h2)
theorem Ai5 {m : Int} {w : List Int} (h : ldC m w = 0) : ∀ j, j + 1 ≤ w.length → ((j + 1 : Nat) : Int) * at' (igL m w) (j + 1) % m = at' w j % m := fun j hj => by
 obtain ⟨h1, h2, h3, h4⟩ := F2 h
 have f := Bt h1
 have hlt := Xc (show 1 < m by omega) h4
 have hi := invC (m := m) (a := ((j + 1 : Nat) : Int)) (by omega) (by omega) (Me (Qa h4 j (by omega)))
 rw [S1 w (by omega), igF, if_neg (by omega), Nat.add_sub_cancel, Int.mul_emod, Int.emod_emod, ← Int.mul_emod, show ((j + 1 : Nat) : Int) * (at' w j * invL m ((j + 1 : Nat) : Int)) = at' w j * (invL m ((j + 1 : Nat) : Int) * ((j + 1 : Nat) : Int)) by grind, Int.mul_emod, hi, ← Int.mul_emod, Int.mul_one]
theorem Ub {m : Int} (w : List Int) (hm : 0 < m) : lcT m (igL m w) = lawT m (igL m w) w.length (pc (suT m (igL m w) w.length)) := by
 rw [lcT, (Agu hm w).1, Nat.add_sub_cancel]
set_option maxHeartbeats 2000000 in
theorem Gi (m : Int) (w : List Int) (h : ldC m w = 0) : AFn Tryz.prog 55 [.agg [.int .i64 m, .sl false 2 (intL w)]] (.tup [.agg [.int .i64 m, .sl true 27 (rowsO (lcT m (igL m w)))], .int .i64 0]) := by
 refine fO Tryz.func55 Tryz.ntmps55 (by rw [Tryz.results55]) fun C hP hM hC => ?_
 have hc := Rr h
 obtain ⟨h1, h2, h3, h4⟩ := F2 h
 have f := Bt h1
 have hn := Cs h1
 have b0 := Af hn (show 0 < m by omega) 0
 have hA := Cr m w (by omega)
 have hU := Jq (m := m) (a := at' w 0) (by omega) (by omega)
 have hDg := At m w (by omega)
 have hR := H7 m w.length (by omega) (by omega)
 rw [h1] at hA
 rw [h2] at hU
 rw [h4] at hR
 have hG := Hj m w w.length (by omega) f.2.2.2.1 hn rfl (by omega) (Xc (by omega) h4)
 have hL := K4 m (igL m w) w.length (by omega) f.2.2.2.1 hc.num hc.len (by omega) (by omega)
 have zq1 : (0 : Int) < (w.length : Int) := (by omega); have zq2 := Aa w 0 (by omega); have zq3 : w.getD 0 0 = at' w 0 := rfl; have zq4 : ((w.length : Int) - 1 == 10) = false := (by rw [beq_eq_false_iff_ne]; omega); have zq5 : IntKind.i64.wrap ((w.length : Int) - 1 + 1) = (w.length : Int) := (by rw [wid _ (by omega) (by omega)]; omega)
 (repeat (first | ((with_reducible refine rC rfl fun K hK => ?_); simp only [go_sem, seval, ↓reduceIte, Int.le_refl, Int.toNat_zero, zq1, zq2, zq3, zq4, zq5]; (first | refine hK _ _ _ ?_ | refine ⟨_, hA, hK _ _ _ ?_⟩ | refine ⟨_, hU, hK _ _ _ ?_⟩ | refine ⟨_, hDg, hK _ _ _ ?_⟩ | refine ⟨_, hR, hK _ _ _ ?_⟩ | refine ⟨_, hG, hK _ _ _ ?_⟩ | refine ⟨_, hL, hK _ _ _ ?_⟩); clear hK K) | (with_reducible first | refine rN ?_ | refine sQ ?_ | refine tY hC hP ?_ | refine aY hC hM hP ?_ | refine kQ ?_ | refine lQ ?_ | refine eQ ?_ | refine bQ ?_ | refine cTa ?_ | refine cFa ?_) | simp only [qS, Nat.reduceEqDiff, ↓reduceIte]))
 refine rt2 ?_
 rw [Ub w (by omega)]
set_option maxHeartbeats 2000000 in
theorem Gn (m : Int) (w : List Int) (hl : w.length ≤ 1000) (h : ldC m w ≠ 0) : AFn Tryz.prog 55 [.agg [.int .i64 m, .sl false 2 (intL w)]] (.tup [.agg [.int .i64 0, .nil], .int .i64 (ldC m w)]) := by
 refine fO Tryz.func55 Tryz.ntmps55 (by rw [Tryz.results55]) fun C hP hM hC => ?_
 have hA := Cr m w (by omega)
 cases h1 : isSer m w with
 | false =>
  rw [h1] at hA
  (repeat (first | ((with_reducible refine rC rfl fun K hK => ?_); simp only [go_sem, seval, ↓reduceIte]; (first | refine hK _ _ _ ?_ | refine ⟨_, hA, hK _ _ _ ?_⟩); clear hK K) | (with_reducible first | refine rN ?_ | refine sQ ?_ | refine tY hC hP ?_ | refine aY hC hM hP ?_ | refine kQ ?_ | refine lQ ?_ | refine eQ ?_ | refine bQ ?_ | refine cTa ?_ | refine cFa ?_) | simp only [qS, Nat.reduceEqDiff, ↓reduceIte]))
  refine rt2 ?_
  rw [ldC, h1, if_neg (by decide)]
 | true =>
  have f := Bt h1
  have hn := Cs h1
  have b0 := Af hn (show 0 < m by omega) 0
  have hU := Jq (m := m) (a := at' w 0) (by omega) (by omega)
  have hDg := At m w (by omega)
  have hR := H7 m w.length (by omega) (by omega)
  rw [h1] at hA
  cases h2 : unB m (at' w 0) with
  | false =>
   rw [h2] at hU
   have zq1 : (0 : Int) < (w.length : Int) := (by omega); have zq2 := Aa w 0 (by omega); have zq3 : w.getD 0 0 = at' w 0 := rfl
   (repeat (first | ((with_reducible refine rC rfl fun K hK => ?_); simp only [go_sem, seval, ↓reduceIte, Int.le_refl, Int.toNat_zero, zq1, zq2, zq3]; (first | refine hK _ _ _ ?_ | refine ⟨_, hA, hK _ _ _ ?_⟩ | refine ⟨_, hU, hK _ _ _ ?_⟩ | refine ⟨_, hDg, hK _ _ _ ?_⟩ | refine ⟨_, hR, hK _ _ _ ?_⟩); clear hK K) | (with_reducible first | refine rN ?_ | refine sQ ?_ | refine tY hC hP ?_ | refine aY hC hM hP ?_ | refine kQ ?_ | refine lQ ?_ | refine eQ ?_ | refine bQ ?_ | refine cTa ?_ | refine cFa ?_) | simp only [qS, Nat.reduceEqDiff, ↓reduceIte]))
   refine rt2 ?_
   rw [ldC, if_pos h1, if_neg (fun e => by rw [h2] at e; cases e.1)]
  | true =>
   rw [h2] at hU
   by_cases h3 : w.length ≤ 10
   ·have h4 : unsB m w.length = false := by
     cases hb : unsB m w.length with
     | false => rfl
     | true => exact absurd (by rw [ldC, if_pos h1, if_pos ⟨h2, h3, hb⟩]) h
    rw [h4] at hR
    have zq4 : (0 : Int) < (w.length : Int) := (by omega); have zq5 := Aa w 0 (by omega); have zq6 : w.getD 0 0 = at' w 0 := rfl; have zq7 : ((w.length : Int) - 1 == 10) = false := (by rw [beq_eq_false_iff_ne]; omega); have zq8 : IntKind.i64.wrap ((w.length : Int) - 1 + 1) = (w.length : Int) := (by rw [wid _ (by omega) (by omega)]; omega)
    (repeat (first | ((with_reducible refine rC rfl fun K hK => ?_); simp only [go_sem, seval, ↓reduceIte, Int.le_refl, Int.toNat_zero, zq4, zq5, zq6, zq7, zq8]; (first | refine hK _ _ _ ?_ | refine ⟨_, hA, hK _ _ _ ?_⟩ | refine ⟨_, hU, hK _ _ _ ?_⟩ | refine ⟨_, hDg, hK _ _ _ ?_⟩ | refine ⟨_, hR, hK _ _ _ ?_⟩); clear hK K) | (with_reducible first | refine rN ?_ | refine sQ ?_ | refine tY hC hP ?_ | refine aY hC hM hP ?_ | refine kQ ?_ | refine lQ ?_ | refine eQ ?_ | refine bQ ?_ | refine cTa ?_ | refine cFa ?_) | simp only [qS, Nat.reduceEqDiff, ↓reduceIte]))
    refine rt2 ?_
    rw [ldC, if_pos h1, if_neg (fun e => by rw [h4] at e; cases e.2.2)]
   ·have zq9 : (0 : Int) < (w.length : Int) := (by omega); have zq10 := Aa w 0 (by omega); have zq11 : w.getD 0 0 = at' w 0 := rfl; have zq12 : ((w.length : Int) - 1 == 10) = true := (by rw [beq_iff_eq]; omega)
    (repeat (first | ((with_reducible refine rC rfl fun K hK => ?_); simp only [go_sem, seval, ↓reduceIte, Int.le_refl, Int.toNat_zero, zq9, zq10, zq11, zq12]; (first | refine hK _ _ _ ?_ | refine ⟨_, hA, hK _ _ _ ?_⟩ | refine ⟨_, hU, hK _ _ _ ?_⟩ | refine ⟨_, hDg, hK _ _ _ ?_⟩ | refine ⟨_, hR, hK _ _ _ ?_⟩); clear hK K) | (with_reducible first | refine rN ?_ | refine sQ ?_ | refine tY hC hP ?_ | refine aY hC hM hP ?_ | refine kQ ?_ | refine lQ ?_ | refine eQ ?_ | refine bQ ?_ | refine cTa ?_ | refine cFa ?_) | simp only [qS, Nat.reduceEqDiff, ↓reduceIte]))
    refine rt2 ?_
    rw [ldC, if_pos h1, if_neg (fun e => h3 e.2.1)]
set_option maxHeartbeats 2000000 in
theorem Gs (m : Int) (w : List Int) (h : ldC m w = 0) : AFn Tryz.prog 56 [.agg [.int .i64 m, .sl false 2 (intL w)]] (.tup [.agg [.int .i64 m, .sl true 27 (rowsO (lcT m (igL m w)))], .int .i64 0]) := by
 refine fO Tryz.func56 Tryz.ntmps56 (by rw [Tryz.results56]) fun C hP hM hC => ?_
 have hc := Rr h
 obtain ⟨h1, h2, h3, h4⟩ := F2 h
 have f := Bt h1
 have hn := Cs h1
 have b0 := Af hn (show 0 < m by omega) 0
 have hA := D2 m w (by omega)
 have hU := Gk (m := m) (a := at' w 0) (by omega) (by omega)
 have hR := Gl m w.length (by omega) (by omega)
 rw [h1] at hA
 rw [h2] at hU
 rw [h4] at hR
 have hG := Kx m w w.length (by omega) f.2.2.2.1 hn rfl (by omega)
 have hL := Kr m (igL m w) w.length (by omega) f.2.2.2.1 hc.num hc.len hc.a0 (by omega) (by omega)
 have zq1 : (0 : Int) < (w.length : Int) := (by omega); have zq2 := Aa w 0 (by omega); have zq3 : w.getD 0 0 = at' w 0 := rfl; have zq4 : ¬ (10 : Int) < (w.length : Int) := (by omega)
 (repeat (first | ((with_reducible refine rC rfl fun K hK => ?_); simp only [go_sem, seval, ↓reduceIte, Int.le_refl, Int.toNat_zero, zq1, zq2, zq3, zq4]; (first | refine hK _ _ _ ?_ | refine ⟨_, hA, hK _ _ _ ?_⟩ | refine ⟨_, hU, hK _ _ _ ?_⟩ | refine ⟨_, hR, hK _ _ _ ?_⟩ | refine ⟨_, hG, hK _ _ _ ?_⟩ | refine ⟨_, hL, hK _ _ _ ?_⟩ | refine ⟨_, Du _ _, hK _ _ _ ?_⟩); clear hK K) | (with_reducible first | refine rN ?_ | refine sQ ?_ | refine tY hC hP ?_ | refine aY hC hM hP ?_ | refine kQ ?_ | refine lQ ?_ | refine eQ ?_ | refine bQ ?_ | refine cTa ?_ | refine cFa ?_) | simp only [qS, Nat.reduceEqDiff, ↓reduceIte]))
 refine rt2 ?_
 rw [Ub w (by omega)]
set_option maxHeartbeats 2000000 in
theorem Gt (m : Int) (w : List Int) (hl : w.length ≤ 1000) (h : ldC m w ≠ 0) : AFn Tryz.prog 56 [.agg [.int .i64 m, .sl false 2 (intL w)]] (.tup [.agg [.int .i64 0, .nil], .int .i64 (ldC m w)]) := by
 refine fO Tryz.func56 Tryz.ntmps56 (by rw [Tryz.results56]) fun C hP hM hC => ?_
 have hA := D2 m w (by omega)
 cases h1 : isSer m w with
 | false =>
  rw [h1] at hA
  (repeat (first | ((with_reducible refine rC rfl fun K hK => ?_); simp only [go_sem, seval, ↓reduceIte]; (first | refine hK _ _ _ ?_ | refine ⟨_, hA, hK _ _ _ ?_⟩); clear hK K) | (with_reducible first | refine rN ?_ | refine sQ ?_ | refine tY hC hP ?_ | refine aY hC hM hP ?_ | refine kQ ?_ | refine lQ ?_ | refine eQ ?_ | refine bQ ?_ | refine cTa ?_ | refine cFa ?_) | simp only [qS, Nat.reduceEqDiff, ↓reduceIte]))
  refine rt2 ?_
  rw [ldC, h1, if_neg (by decide)]
 | true =>
  have f := Bt h1
  have hn := Cs h1
  have b0 := Af hn (show 0 < m by omega) 0
  have hU := Gk (m := m) (a := at' w 0) (by omega) (by omega)
  have hR := Gl m w.length (by omega) (by omega)
  rw [h1] at hA
  cases h2 : unB m (at' w 0) with
  | false =>
   rw [h2] at hU
   have zq1 : (0 : Int) < (w.length : Int) := (by omega); have zq2 := Aa w 0 (by omega); have zq3 : w.getD 0 0 = at' w 0 := rfl
   (repeat (first | ((with_reducible refine rC rfl fun K hK => ?_); simp only [go_sem, seval, ↓reduceIte, Int.le_refl, Int.toNat_zero, zq1, zq2, zq3]; (first | refine hK _ _ _ ?_ | refine ⟨_, hA, hK _ _ _ ?_⟩ | refine ⟨_, hU, hK _ _ _ ?_⟩ | refine ⟨_, hR, hK _ _ _ ?_⟩); clear hK K) | (with_reducible first | refine rN ?_ | refine sQ ?_ | refine tY hC hP ?_ | refine aY hC hM hP ?_ | refine kQ ?_ | refine lQ ?_ | refine eQ ?_ | refine bQ ?_ | refine cTa ?_ | refine cFa ?_) | simp only [qS, Nat.reduceEqDiff, ↓reduceIte]))
   refine rt2 ?_
   rw [ldC, if_pos h1, if_neg (fun e => by rw [h2] at e; cases e.1)]
  | true =>
   rw [h2] at hU
   by_cases h3 : w.length ≤ 10
   ·have h4 : unsB m w.length = false := by
     cases hb : unsB m w.length with
     | false => rfl
     | true => exact absurd (by rw [ldC, if_pos h1, if_pos ⟨h2, h3, hb⟩]) h
    rw [h4] at hR
    have zq4 : (0 : Int) < (w.length : Int) := (by omega); have zq5 := Aa w 0 (by omega); have zq6 : w.getD 0 0 = at' w 0 := rfl; have zq7 : ¬ (10 : Int) < (w.length : Int) := (by omega)
    (repeat (first | ((with_reducible refine rC rfl fun K hK => ?_); simp only [go_sem, seval, ↓reduceIte, Int.le_refl, Int.toNat_zero, zq4, zq5, zq6, zq7]; (first | refine hK _ _ _ ?_ | refine ⟨_, hA, hK _ _ _ ?_⟩ | refine ⟨_, hU, hK _ _ _ ?_⟩ | refine ⟨_, hR, hK _ _ _ ?_⟩); clear hK K) | (with_reducible first | refine rN ?_ | refine sQ ?_ | refine tY hC hP ?_ | refine aY hC hM hP ?_ | refine kQ ?_ | refine lQ ?_ | refine eQ ?_ | refine bQ ?_ | refine cTa ?_ | refine cFa ?_) | simp only [qS, Nat.reduceEqDiff, ↓reduceIte]))
    refine rt2 ?_
    rw [ldC, if_pos h1, if_neg (fun e => by rw [h4] at e; cases e.2.2)]
   ·have zq8 : (0 : Int) < (w.length : Int) := (by omega); have zq9 := Aa w 0 (by omega); have zq10 : w.getD 0 0 = at' w 0 := rfl; have zq11 : (10 : Int) < (w.length : Int) := (by omega)
    (repeat (first | ((with_reducible refine rC rfl fun K hK => ?_); simp only [go_sem, seval, ↓reduceIte, Int.le_refl, Int.toNat_zero, zq8, zq9, zq10, zq11]; (first | refine hK _ _ _ ?_ | refine ⟨_, hA, hK _ _ _ ?_⟩ | refine ⟨_, hU, hK _ _ _ ?_⟩ | refine ⟨_, hR, hK _ _ _ ?_⟩); clear hK K) | (with_reducible first | refine rN ?_ | refine sQ ?_ | refine tY hC hP ?_ | refine aY hC hM hP ?_ | refine kQ ?_ | refine lQ ?_ | refine eQ ?_ | refine bQ ?_ | refine cTa ?_ | refine cFa ?_) | simp only [qS, Nat.reduceEqDiff, ↓reduceIte]))
    refine rt2 ?_
    rw [ldC, if_pos h1, if_neg (fun e => h3 e.2.1)]
noncomputable def doC (m : Int) (t : List (List Int)) : Int := if lawB m t = true then (if t.length = 2 then 5 else 0) else 1
theorem N4 {m : Int} {t : List (List Int)} (h : doC m t = 0) : lawB m t = true ∧ t.length ≠ 2 := by
 unfold doC at h
 split at h
 ·split at h
  ·cases h
  ·exact ⟨by assumption, by assumption⟩
 ·cases h
def doL (m : Int) (t : List (List Int)) : List Int := invS m (t.getD 1 []) (t.length - 2)
theorem Fj {m : Int} {t : List (List Int)} (h : lawB m t = true) : 1 < m ∧ m ≤ 10000 ∧ 2 ≤ t.length ∧ t.length ≤ 11 ∧ (t.getD 1 []).length = t.length - 1 ∧ ∀ x ∈ t.getD 1 [], 0 ≤ x ∧ x < m := by
 have hp := Eo (Fx h).1
 have hl := hp.2.2.2.2
 exact ⟨by omega, hp.2.1, hp.2.2.1, hp.2.2.2.1, hl.row 1 (by omega), hl.rowNum 1⟩
set_option maxHeartbeats 2000000 in
theorem G5 (m : Int) (t : List (List Int)) (h : lawB m t = true) : AFn Tryz.prog 158 [.agg [.int .i64 m, .sl false 27 (rowsF t)]] (.agg [.int .i64 m, .sl true 2 (intL (doL m t))]) := by
 refine fO Tryz.func158 Tryz.ntmps158 (by rw [Tryz.results158]) fun C hP hM hC => ?_
 obtain ⟨f1, f2, f3, f4, f5, f6⟩ := Fj h
 have hO := Im (t.getD 1 []) (by omega)
 have hI := Jh m (t.getD 1 []) (t.length - 2) f1 f2 f6 (by omega) (by omega)
 have zq1 : (1 : Int) < (t.length : Int) := (by omega); have zq2 : (0 : Int) ≤ 1 := (by omega); have zq3 : (1 : Int).toNat = 1 := rfl; have zq4 := Aj t 1 (by omega)
 (repeat (first | ((with_reducible refine rC rfl fun K hK => ?_); simp only [go_sem, seval, ↓reduceIte, Ac, zq1, zq2, zq3, zq4]; (first | refine hK _ _ _ ?_ | refine ⟨_, hO, hK _ _ _ ?_⟩ | refine ⟨_, hI, hK _ _ _ ?_⟩); clear hK K) | (with_reducible first | refine rN ?_ | refine sQ ?_ | refine tY hC hP ?_ | refine aY hC hM hP ?_ | refine kQ ?_ | refine lQ ?_ | refine eQ ?_ | refine bQ ?_ | refine cTa ?_ | refine cFa ?_) | simp only [qS, Nat.reduceEqDiff, ↓reduceIte]))
 refine rt1 ?_
 rfl
set_option maxHeartbeats 2000000 in
theorem Ip (m : Int) (t : List (List Int)) (h : lawB m t = true) : AFn Tryz.prog 160 [.agg [.int .i64 m, .sl false 27 (rowsF t)]] (.sl true 2 (intL (doL m t))) := by
 refine fO Tryz.func160 Tryz.ntmps160 (by rw [Tryz.results160]) fun C hP hM hC => ?_
 obtain ⟨f1, f2, f3, f4, f5, f6⟩ := Fj h
 have hI := Gz m (t.getD 1 []) (t.length - 2) f1 f2 f6 (by omega) (by omega) (by omega)
 have zq1 : (1 : Int) < (t.length : Int) := (by omega); have zq2 : (0 : Int) ≤ 1 := (by omega); have zq3 : (1 : Int).toNat = 1 := rfl; have zq4 := Aj t 1 (by omega); have zq5 : IntKind.i64.wrap ((t.length : Int) - 2) = ((t.length - 2 : Nat) : Int) := (by rw [wid _ (by omega) (by omega)]; omega)
 (repeat (first | ((with_reducible refine rC rfl fun K hK => ?_); simp only [go_sem, seval, ↓reduceIte, Ac, zq1, zq2, zq3, zq4, zq5]; (first | refine hK _ _ _ ?_ | refine ⟨_, hI, hK _ _ _ ?_⟩); clear hK K) | (with_reducible first | refine rN ?_ | refine sQ ?_ | refine tY hC hP ?_ | refine aY hC hM hP ?_ | refine kQ ?_ | refine lQ ?_ | refine eQ ?_ | refine bQ ?_ | refine cTa ?_ | refine cFa ?_) | simp only [qS, Nat.reduceEqDiff, ↓reduceIte]))
 refine rt1 ?_
 rfl
theorem Ej (m : Int) (t : List (List Int)) (hs : Sm t) (h : doC m t = 0) : AFn Tryz.prog 58 [.agg [.int .i64 m, .sl false 27 (rowsF t)]] (.tup [.agg [.int .i64 m, .sl true 2 (intL (doL m t))], .int .i64 0]) := by
 refine fO Tryz.func58 Tryz.ntmps58 (by rw [Tryz.results58]) fun C hP hM hC => ?_
 obtain ⟨h1, h2⟩ := N4 h
 obtain ⟨f1, f2, f3, f4, f5, f6⟩ := Fj h1
 have hA := Dz m t hs
 have hD := A5 m t (by omega)
 rw [h1] at hA
 have zq1 : ((t.length : Int) - 1 == 1) = false := (by rw [beq_eq_false_iff_ne]; omega); have zq2 := G5 m t h1
 (repeat (first | ((with_reducible refine rC rfl fun K hK => ?_); simp only [go_sem, seval, ↓reduceIte, zq1]; (first | refine hK _ _ _ ?_ | refine ⟨_, hA, hK _ _ _ ?_⟩ | refine ⟨_, hD, hK _ _ _ ?_⟩ | refine ⟨_, zq2, hK _ _ _ ?_⟩); clear hK K) | (with_reducible first | refine rN ?_ | refine sQ ?_ | refine tY hC hP ?_ | refine aY hC hM hP ?_ | refine kQ ?_ | refine lQ ?_ | refine eQ ?_ | refine bQ ?_ | refine cTa ?_ | refine cFa ?_) | simp only [qS, Nat.reduceEqDiff, ↓reduceIte]))
 refine rt2 ?_
 rfl
theorem Hx (m : Int) (t : List (List Int)) (hs : Sm t) (h : doC m t ≠ 0) : AFn Tryz.prog 58 [.agg [.int .i64 m, .sl false 27 (rowsF t)]] (.tup [.agg [.int .i64 0, .nil], .int .i64 (doC m t)]) := by
 refine fO Tryz.func58 Tryz.ntmps58 (by rw [Tryz.results58]) fun C hP hM hC => ?_
 have hA := Dz m t hs
 cases h1 : lawB m t with
 | false =>
  rw [h1] at hA
  (repeat (first | ((with_reducible refine rC rfl fun K hK => ?_); simp only [go_sem, seval, ↓reduceIte]; (first | refine hK _ _ _ ?_ | refine ⟨_, hA, hK _ _ _ ?_⟩); clear hK K) | (with_reducible first | refine rN ?_ | refine sQ ?_ | refine tY hC hP ?_ | refine aY hC hM hP ?_ | refine kQ ?_ | refine lQ ?_ | refine eQ ?_ | refine bQ ?_ | refine cTa ?_ | refine cFa ?_) | simp only [qS, Nat.reduceEqDiff, ↓reduceIte]))
  refine rt2 ?_
  rw [doC, h1, if_neg (by decide)]
 | true =>
  obtain ⟨f1, f2, f3, f4, f5, f6⟩ := Fj h1
  have hD := A5 m t (by omega)
  have h2 : t.length = 2 := by
   apply Classical.byContradiction
   intro hn
   exact h (by rw [doC, if_pos h1, if_neg hn])
  rw [h1] at hA
  have zq1 : ((t.length : Int) - 1 == 1) = true := (by rw [beq_iff_eq]; omega)
  (repeat (first | ((with_reducible refine rC rfl fun K hK => ?_); simp only [go_sem, seval, ↓reduceIte, zq1]; (first | refine hK _ _ _ ?_ | refine ⟨_, hA, hK _ _ _ ?_⟩ | refine ⟨_, hD, hK _ _ _ ?_⟩); clear hK K) | (with_reducible first | refine rN ?_ | refine sQ ?_ | refine tY hC hP ?_ | refine aY hC hM hP ?_ | refine kQ ?_ | refine lQ ?_ | refine eQ ?_ | refine bQ ?_ | refine cTa ?_ | refine cFa ?_) | simp only [qS, Nat.reduceEqDiff, ↓reduceIte]))
  refine rt2 ?_
  rw [doC, if_pos h1, if_pos h2]
theorem Hy (m : Int) (t : List (List Int)) (hs : Sm t) (h : doC m t = 0) : AFn Tryz.prog 59 [.agg [.int .i64 m, .sl false 27 (rowsF t)]] (.tup [.agg [.int .i64 m, .sl true 2 (intL (doL m t))], .int .i64 0]) := by
 refine fO Tryz.func59 Tryz.ntmps59 (by rw [Tryz.results59]) fun C hP hM hC => ?_
 obtain ⟨h1, h2⟩ := N4 h
 obtain ⟨f1, f2, f3, f4, f5, f6⟩ := Fj h1
 have hA := Le m t hs
 rw [h1] at hA
 have zq1 : ((t.length : Int) == 2) = false := (by rw [beq_eq_false_iff_ne]; omega); have zq2 := Ip m t h1
 (repeat (first | ((with_reducible refine rC rfl fun K hK => ?_); simp only [go_sem, seval, ↓reduceIte, Ac, zq1]; (first | refine hK _ _ _ ?_ | refine ⟨_, hA, hK _ _ _ ?_⟩ | refine ⟨_, zq2, hK _ _ _ ?_⟩ | refine ⟨_, Dw _ _, hK _ _ _ ?_⟩); clear hK K) | (with_reducible first | refine rN ?_ | refine sQ ?_ | refine tY hC hP ?_ | refine aY hC hM hP ?_ | refine kQ ?_ | refine lQ ?_ | refine eQ ?_ | refine bQ ?_ | refine cTa ?_ | refine cFa ?_) | simp only [qS, Nat.reduceEqDiff, ↓reduceIte]))
 refine rt2 ?_
 rfl
theorem Hq (m : Int) (t : List (List Int)) (hs : Sm t) (h : doC m t ≠ 0) : AFn Tryz.prog 59 [.agg [.int .i64 m, .sl false 27 (rowsF t)]] (.tup [.agg [.int .i64 0, .nil], .int .i64 (doC m t)]) := by
 refine fO Tryz.func59 Tryz.ntmps59 (by rw [Tryz.results59]) fun C hP hM hC => ?_
 have hA := Le m t hs
 cases h1 : lawB m t with
 | false =>
  rw [h1] at hA
  (repeat (first | ((with_reducible refine rC rfl fun K hK => ?_); simp only [go_sem, seval, ↓reduceIte]; (first | refine hK _ _ _ ?_ | refine ⟨_, hA, hK _ _ _ ?_⟩); clear hK K) | (with_reducible first | refine rN ?_ | refine sQ ?_ | refine tY hC hP ?_ | refine aY hC hM hP ?_ | refine kQ ?_ | refine lQ ?_ | refine eQ ?_ | refine bQ ?_ | refine cTa ?_ | refine cFa ?_) | simp only [qS, Nat.reduceEqDiff, ↓reduceIte]))
  refine rt2 ?_
  rw [doC, h1, if_neg (by decide)]
 | true =>
  have h2 : t.length = 2 := by
   apply Classical.byContradiction
   intro hn
   exact h (by rw [doC, if_pos h1, if_neg hn])
  rw [h1] at hA
  have zq1 : ((t.length : Int) == 2) = true := (by rw [beq_iff_eq]; omega)
  (repeat (first | ((with_reducible refine rC rfl fun K hK => ?_); simp only [go_sem, seval, ↓reduceIte, Ac, zq1]; (first | refine hK _ _ _ ?_ | refine ⟨_, hA, hK _ _ _ ?_⟩); clear hK K) | (with_reducible first | refine rN ?_ | refine sQ ?_ | refine tY hC hP ?_ | refine aY hC hM hP ?_ | refine kQ ?_ | refine lQ ?_ | refine eQ ?_ | refine bQ ?_ | refine cTa ?_ | refine cFa ?_) | simp only [qS, Nat.reduceEqDiff, ↓reduceIte]))
  refine rt2 ?_
  rw [doC, if_pos h1, if_pos h2]
theorem Jb (m c : Int) (l : List Int) (h : isSer m l = true) (hc : 0 ≤ c ∧ c < m) : AFn Tryz.prog 61 [.agg [.int .i64 m, .sl false 2 (intL l)], .int .i64 c] (.tup [.agg [.int .i64 m, .sl true 2 (intL (scL m c l (l.length - 1)))], .int .i64 0]) := by
 refine fO Tryz.func61 Tryz.ntmps61 (by rw [Tryz.results61]) fun C hP hM hC => ?_
 have f := Bt h
 have hA := Cr m l (by omega)
 have hN := Ei c m (by omega) (by omega)
 rw [h] at hA
 rw [show isNum m c = true by simp [isNum]; omega] at hN
 have hS := Fm m c l (l.length - 1) (by omega) f.2.2.2.1 (Cs h) (by omega) (by omega) hc.1 hc.2
 (repeat (first | ((with_reducible refine rC rfl fun K hK => ?_); simp only [go_sem, seval, ↓reduceIte]; (first | refine hK _ _ _ ?_ | refine ⟨_, hA, hK _ _ _ ?_⟩ | refine ⟨_, hN, hK _ _ _ ?_⟩ | refine ⟨_, hS, hK _ _ _ ?_⟩); clear hK K) | (with_reducible first | refine rN ?_ | refine sQ ?_ | refine tY hC hP ?_ | refine aY hC hM hP ?_ | refine kQ ?_ | refine lQ ?_ | refine eQ ?_ | refine bQ ?_ | refine cTa ?_ | refine cFa ?_) | simp only [qS, Nat.reduceEqDiff, ↓reduceIte]))
 refine rt2 ?_
 rfl
theorem Aho (X : Cx) (s : Nat) (p : List Nat) (cs : List Value) (h : CR X s p .nil cs) : CR X s p (.sl false 2 (intL [])) cs := by
 simp only [CR] at h ⊢
 exact ⟨none, 0, h, Nat.le_refl _, Nat.zero_le _, fun t ht => (by cases ht), rfl, fun h => absurd rfl h⟩
theorem Kz (c m : Int) (h1 : -9000000000000000000 ≤ m) (h2 : m ≤ 9000000000000000000) : AFn Tryz.prog 219 [.int .i64 c, .fptr (.int .i64 m)] (.bool (isNum m c)) := by
 refine fO Tryz.func219 Tryz.ntmps219 (by rw [Tryz.results219]) fun C hP hM hC => ?_
 have zq1 := Ei c m h1 h2
 (repeat (first | ((with_reducible refine rC rfl fun K hK => ?_); simp only [go_sem, seval, ↓reduceIte]; (first | refine hK _ _ _ ?_ | refine ⟨_, zq1, hK _ _ _ ?_⟩); clear hK K) | (with_reducible first | refine rN ?_ | refine sQ ?_ | refine tY hC hP ?_ | refine aY hC hM hP ?_ | refine kQ ?_ | refine lQ ?_ | refine eQ ?_ | refine bQ ?_ | refine cTa ?_ | refine cFa ?_) | simp only [qS, Nat.reduceEqDiff, ↓reduceIte]))
 refine rt1 ?_
 rfl
theorem Ks (m d : Int) (hm : 2 ≤ m) (hm2 : m ≤ 10000) (hd : 1 ≤ d) (hd2 : d ≤ 10) : AFn Tryz.prog 145 [.int .i64 m, .int .i64 d, .nil] (.int .i64 0) := by
 refine fO Tryz.func145 Tryz.ntmps145 (by rw [Tryz.results145]) fun C hP hM hC => ?_
 have h1 := De m
 rw [show (decide (2 ≤ m) && decide (m ≤ 10000)) = true by simp [hm, hm2]] at h1
 have h2 := Fc d 1 10
 rw [show (decide (1 ≤ d) && decide (d ≤ 10)) = true by simp [hd, hd2]] at h2
 have h3 := D9 [] (by simp) 219 [.fptr (.int .i64 m)] (by decide) (by rfl) (by rfl) (fun c => rfl) (fun x => isNum m x) (fun x _ => Kz x m (by omega) (by omega))
 rw [show ([] : List Int).all (fun x => isNum m x) = true from rfl] at h3
 refine AWP.weak (t := 2) rfl Aho rfl rfl ?_
 (repeat (first | ((with_reducible refine rC rfl fun K hK => ?_); simp only [go_sem, seval, ↓reduceIte]; (first | refine hK _ _ _ ?_ | refine ⟨_, h1, hK _ _ _ ?_⟩ | refine ⟨_, h2, hK _ _ _ ?_⟩ | refine ⟨_, h3, hK _ _ _ ?_⟩); clear hK K) | (with_reducible first | refine rN ?_ | refine sQ ?_ | refine tY hC hP ?_ | refine aY hC hM hP ?_ | refine kQ ?_ | refine lQ ?_ | refine eQ ?_ | refine bQ ?_ | refine cTa ?_ | refine cFa ?_) | simp only [qS, Nat.reduceEqDiff, ↓reduceIte]))
 refine rt1 ?_
 rfl
theorem Pl.shp2 {m : Int} {n : Nat} {t : List (List Int)} (h : Pl m n t) (hn : n ≤ 1000) : Shp t := ⟨by rw [h.len]; omega, fun x hx => by
 obtain ⟨i, hi, rfl⟩ := List.getElem_of_mem hx
 have hl := h.len
 have := h.row i (by omega)
 rw [List.getD_eq_getElem?_getD, List.getElem?_eq_getElem hi] at this
 have e : (t[i]).length = n - i := this
 omega⟩
def adT (m : Int) (d : Nat) : List (List Int) := suT m (varL d) d
theorem Tx {m : Int} (hm : 1 < m) (d : Nat) : ∀ x ∈ varL d, 0 ≤ x ∧ x < m := fun x hx => by
 obtain ⟨i, _, rfl⟩ := Cb.1 hx
 split <;> omega
set_option maxHeartbeats 2000000 in
theorem Jd (m : Int) (d : Nat) (hm : 1 < m) (hm2 : m ≤ 10000) (hd : 1 ≤ d) (hd2 : d ≤ 10) : AFn Tryz.prog 52 [.int .i64 m, .int .i64 d] (.tup [.agg [.int .i64 m, .sl true 27 (rowsO (adT m d))], .int .i64 0]) := by
 refine fO Tryz.func52 Tryz.ntmps52 (by rw [Tryz.results52]) fun C hP hM hC => ?_
 have hS := Ks m d (by omega) hm2 (by omega) (by omega)
 have hV := Lx m d hd (by omega)
 have hp := Agr (show 0 < m by omega) (Tx hm d) (d + 1)
 have hA := Eu m (tab2 (d + 1) (axX2 (varL d) (d + 1))) (tab2 (d + 1) (axY2 (varL d) (d + 1))) (d + 1) (by omega) hm2 hp.1 hp.2 (by omega) (by omega)
 rw [Adf] at hA
 have zq1 : ((0 : Int) != 0) = false := rfl; have zq2 := wid (d : Int) (by omega) (by omega)
 (repeat (first | ((with_reducible refine rC rfl fun K hK => ?_); simp only [go_sem, seval, ↓reduceIte, zq1, zq2]; (first | refine hK _ _ _ ?_ | refine ⟨_, hS, hK _ _ _ ?_⟩ | refine ⟨_, hV, hK _ _ _ ?_⟩ | refine ⟨_, hA, hK _ _ _ ?_⟩); clear hK K) | (with_reducible first | refine rN ?_ | refine sQ ?_ | refine tY hC hP ?_ | refine aY hC hM hP ?_ | refine kQ ?_ | refine lQ ?_ | refine eQ ?_ | refine bQ ?_ | refine cTa ?_ | refine cFa ?_) | simp only [qS, Nat.reduceEqDiff, ↓reduceIte]))
 refine rt2 ?_
 rfl
set_option maxHeartbeats 2000000 in
theorem Hk (m : Int) (lf lg : List (List Int)) (a : List Int) (hf : lawB m lf = true) (hg : lawB m lg = true) (ha : isSer m a = true) (h1 : lf.length = a.length) (h2 : lg.length = a.length) (h0 : at' a 0 = 0) : AFn Tryz.prog 53 [.agg [.int .i64 m, .sl false 27 (rowsF lf)], .agg [.int .i64 m, .sl false 27 (rowsF lg)], .agg [.int .i64 m, .sl false 2 (intL a)]] (.tup [.bool (hmB m a.length (pc lf) (pc lg) a), .int .i64 0]) := by
 refine fO Tryz.func53 Tryz.ntmps53 (by rw [Tryz.results53]) fun C hP hM hC => ?_
 have f := Bt ha
 have pf := Eo (Fx hf).1
 have pg := Eo (Fx hg).1
 have hA := Dz m lf (pf.2.2.2.2.shp2 (by omega)).sm
 have hB := Dz m lg (pg.2.2.2.2.shp2 (by omega)).sm
 have hS := Cr m a (by omega)
 have hKq := L7 m m lf lg (by omega) (by omega)
 have hC2 := Ig m m lf a (by omega) (by omega) (by omega)
 have pf5 := pf.2.2.2.2
 have pg5 := pg.2.2.2.2
 rw [h1] at pf5
 rw [h2] at pg5
 have hH := Jk m lf lg a a.length (by omega) f.2.2.2.1 pf5 pg5 (Cs ha) rfl (by omega) (by omega)
 rw [hf] at hA
 rw [hg] at hB
 rw [ha] at hS
 rw [decide_eq_true ⟨rfl, by omega⟩] at hKq
 rw [show cuB m lf.length m a = true by
  rw [cuB, decide_eq_true ⟨rfl, h1⟩, Bool.true_and, beq_iff_eq]; exact h0] at hC2
 (repeat (first | ((with_reducible refine rC rfl fun K hK => ?_); simp only [go_sem, seval, ↓reduceIte]; (first | refine hK _ _ _ ?_ | refine ⟨_, hA, hK _ _ _ ?_⟩ | refine ⟨_, hB, hK _ _ _ ?_⟩ | refine ⟨_, hS, hK _ _ _ ?_⟩ | refine ⟨_, hKq, hK _ _ _ ?_⟩ | refine ⟨_, hC2, hK _ _ _ ?_⟩ | refine ⟨_, hH, hK _ _ _ ?_⟩); clear hK K) | (with_reducible first | refine rN ?_ | refine sQ ?_ | refine tY hC hP ?_ | refine aY hC hM hP ?_ | refine kQ ?_ | refine lQ ?_ | refine eQ ?_ | refine bQ ?_ | refine cTa ?_ | refine cFa ?_) | simp only [qS, Nat.reduceEqDiff, ↓reduceIte]))
 refine rt2 ?_
 rfl
theorem Ug (t : List (List Int)) (hsh : t.length ≤ 1000 ∧ ∀ i, (t.getD i []).length ≤ 1000) : AFn Tryz.prog 144 [.sl false 27 (rowsF t), .sl false 27 (rowsF t)] (.bool true) := by
 refine fO Tryz.func144 Tryz.ntmps144 (by rw [Tryz.results144]) fun C hP hM hC => ?_
 have ht := hsh.1
 (repeat (first | ((with_reducible refine rC rfl fun K hK => ?_); simp only [go_sem, seval, ↓reduceIte, bne_self_eq_false, Ac]; refine hK _ _ _ ?_; clear hK K) | (with_reducible first | refine rN ?_ | refine sQ ?_ | refine tY hC hP ?_ | refine aY hC hM hP ?_ | refine kQ ?_ | refine lQ ?_ | refine eQ ?_ | refine bQ ?_ | refine cTa ?_ | refine cFa ?_) | simp only [qS, Nat.reduceEqDiff, ↓reduceIte]))
 refine AWP.loop (fun i : Nat => [(5, ⟨0, .val (.int .i64 i)⟩), (0, ⟨0, .val (.sl false 27 (rowsF t))⟩), (1, ⟨0, .val (.sl false 27 (rowsF t))⟩)]) (fun i => i ≤ t.length) (fun i => t.length - i) 0 (Nat.zero_le _) (fun i => rfl) ?_ (fun i hi => ?_)
 ·simp [Sub, lk]
 ·by_cases h : i < t.length
  ·have hl := H8 (t.getD i []) (by have := hsh.2 i; omega)
   have zq1 : (i : Int) < (t.length : Int) := (by omega); have zq2 := Aj t i h; have zq3 := wid ((i : Int) + 1) (by omega) (by omega)
   (repeat (first | ((with_reducible refine rC rfl fun K hK => ?_); simp only [go_sem, seval, ↓reduceIte, Ac, zq1, zq2, Int.natCast_nonneg, Int.toNat_natCast, zq3]; (first | refine hK _ _ _ ?_ | refine ⟨_, hl, hK _ _ _ ?_⟩); clear hK K) | (with_reducible first | refine rN ?_ | refine sQ ?_ | refine tY hC hP ?_ | refine aY hC hM hP ?_ | refine kQ ?_ | refine lQ ?_ | refine eQ ?_ | refine bQ ?_ | refine cTa ?_ | refine cFa ?_) | simp only [qS, Nat.reduceEqDiff, ↓reduceIte]))
   exact ⟨i + 1, h, by omega, by simp [Sub, lk]⟩
  ·have zq4 : ¬ (i : Int) < (t.length : Int) := (by omega)
   (repeat (first | ((with_reducible refine rC rfl fun K hK => ?_); simp only [go_sem, seval, ↓reduceIte, Ac, zq4]; refine hK _ _ _ ?_; clear hK K) | (with_reducible first | refine rN ?_ | refine sQ ?_ | refine tY hC hP ?_ | refine aY hC hM hP ?_ | refine kQ ?_ | refine lQ ?_ | refine eQ ?_ | refine bQ ?_ | refine cTa ?_ | refine cFa ?_) | simp only [qS, Nat.reduceEqDiff, ↓reduceIte]))
   refine rt1 ?_
   rfl
theorem Kq (m : Int) (t : List (List Int)) (hsh : t.length ≤ 1000 ∧ ∀ i, (t.getD i []).length ≤ 1000) : AFn Tryz.prog 51 [.agg [.int .i64 m, .sl false 27 (rowsF t)], .agg [.int .i64 m, .sl false 27 (rowsF t)]] (.bool true) := by
 refine fO Tryz.func51 Tryz.ntmps51 (by rw [Tryz.results51]) fun C hP hM hC => ?_
 have zq1 := Ug t hsh
 (repeat (first | ((with_reducible refine rC rfl fun K hK => ?_); simp only [go_sem, seval, ↓reduceIte, beq_self_eq_true]; (first | refine hK _ _ _ ?_ | refine ⟨_, zq1, hK _ _ _ ?_⟩); clear hK K) | (with_reducible first | refine rN ?_ | refine sQ ?_ | refine tY hC hP ?_ | refine aY hC hM hP ?_ | refine kQ ?_ | refine lQ ?_ | refine eQ ?_ | refine bQ ?_ | refine cTa ?_ | refine cFa ?_) | simp only [qS, Nat.reduceEqDiff, ↓reduceIte]))
 refine rt1 ?_
 rfl
theorem Nq  : AFn Tryz.prog 144 [.nil, .nil] (.bool true) := by
 refine fO Tryz.func144 Tryz.ntmps144 (by rw [Tryz.results144]) fun C hP hM hC => ?_
 (repeat (first | ((with_reducible refine rC rfl fun K hK => ?_); simp only [go_sem, seval, ↓reduceIte, bne_self_eq_false]; refine hK _ _ _ ?_; clear hK K) | (with_reducible first | refine rN ?_ | refine sQ ?_ | refine tY hC hP ?_ | refine aY hC hM hP ?_ | refine kQ ?_ | refine lQ ?_ | refine eQ ?_ | refine bQ ?_ | refine cTa ?_ | refine cFa ?_) | simp only [qS, Nat.reduceEqDiff, ↓reduceIte]))
 refine AWP.loop (fun i : Nat => [(5, ⟨0, .val (.int .i64 0)⟩), (0, ⟨0, .val (.nil)⟩), (1, ⟨0, .val (.nil)⟩)]) (fun i => True) (fun i => 0) 0 trivial (fun i => rfl) ?_ (fun i hi => ?_)
 ·simp [Sub, lk]
 ·have zq1 : ¬ (0 : Int) < 0 := (by omega)
  (repeat (first | ((with_reducible refine rC rfl fun K hK => ?_); simp only [go_sem, seval, ↓reduceIte, zq1]; refine hK _ _ _ ?_; clear hK K) | (with_reducible first | refine rN ?_ | refine sQ ?_ | refine tY hC hP ?_ | refine aY hC hM hP ?_ | refine kQ ?_ | refine lQ ?_ | refine eQ ?_ | refine bQ ?_ | refine cTa ?_ | refine cFa ?_) | simp only [qS, Nat.reduceEqDiff, ↓reduceIte]))
  refine rt1 ?_
  rfl
theorem Gy (m : Int) : AFn Tryz.prog 51 [.agg [.int .i64 m, .nil], .agg [.int .i64 m, .nil]] (.bool true) := by
 refine fO Tryz.func51 Tryz.ntmps51 (by rw [Tryz.results51]) fun C hP hM hC => ?_
 have zq1 := Nq
 (repeat (first | ((with_reducible refine rC rfl fun K hK => ?_); simp only [go_sem, seval, ↓reduceIte, beq_self_eq_true]; (first | refine hK _ _ _ ?_ | refine ⟨_, zq1, hK _ _ _ ?_⟩); clear hK K) | (with_reducible first | refine rN ?_ | refine sQ ?_ | refine tY hC hP ?_ | refine aY hC hM hP ?_ | refine kQ ?_ | refine lQ ?_ | refine eQ ?_ | refine bQ ?_ | refine cTa ?_ | refine cFa ?_) | simp only [qS, Nat.reduceEqDiff, ↓reduceIte]))
 refine rt1 ?_
 rfl
theorem Hi (m : Int) (l : List Int) (hl : l.length ≤ 1099511627776) : AFn Tryz.prog 60 [.agg [.int .i64 m, .sl false 2 (intL l)], .agg [.int .i64 m, .sl false 2 (intL l)]] (.bool true) := by
 refine fO Tryz.func60 Tryz.ntmps60 (by rw [Tryz.results60]) fun C hP hM hC => ?_
 have zq1 := H8 l hl
 (repeat (first | ((with_reducible refine rC rfl fun K hK => ?_); simp only [go_sem, seval, ↓reduceIte, beq_self_eq_true]; (first | refine hK _ _ _ ?_ | refine ⟨_, zq1, hK _ _ _ ?_⟩); clear hK K) | (with_reducible first | refine rN ?_ | refine sQ ?_ | refine tY hC hP ?_ | refine aY hC hM hP ?_ | refine kQ ?_ | refine lQ ?_ | refine eQ ?_ | refine bQ ?_ | refine cTa ?_ | refine cFa ?_) | simp only [qS, Nat.reduceEqDiff, ↓reduceIte]))
 refine rt1 ?_
 rfl
theorem Eg (m : Int) : AFn Tryz.prog 60 [.agg [.int .i64 m, .nil], .agg [.int .i64 m, .nil]] (.bool true) := by
 refine fO Tryz.func60 Tryz.ntmps60 (by rw [Tryz.results60]) fun C hP hM hC => ?_
 have zq1 := Ky
 (repeat (first | ((with_reducible refine rC rfl fun K hK => ?_); simp only [go_sem, seval, ↓reduceIte, beq_self_eq_true]; (first | refine hK _ _ _ ?_ | refine ⟨_, zq1, hK _ _ _ ?_⟩); clear hK K) | (with_reducible first | refine rN ?_ | refine sQ ?_ | refine tY hC hP ?_ | refine aY hC hM hP ?_ | refine kQ ?_ | refine lQ ?_ | refine eQ ?_ | refine bQ ?_ | refine cTa ?_ | refine cFa ?_) | simp only [qS, Nat.reduceEqDiff, ↓reduceIte]))
 refine rt1 ?_
 rfl
theorem Xf {m : Int} {t : List (List Int)} {n : Nat} (h1 : 1 < m) (h2 : m ≤ 10000) (hp : Pl m n t) (h4 : 2 ≤ n) (h5 : n ≤ 11) : isPl m t = true := by
 have hl := hp.len
 refine Nv (by simp; omega) (by simp; omega) (fun i hi => ?_)
 rw [rowB, Bool.and_eq_true, beq_iff_eq, List.all_eq_true]
 refine ⟨by rw [hl]; exact hp.row i (by omega), fun x hx => ?_⟩
 have := hp.rowNum i x hx
 simp only [isNum, Bool.and_eq_true, decide_eq_true_eq]
 omega
theorem Zo {m : Int} {l : List Int} (h1 : 1 < m) (h2 : m ≤ 10000) (h3 : 2 ≤ l.length) (h4 : l.length ≤ 11) (h5 : ∀ x ∈ l, 0 ≤ x ∧ x < m) : isSer m l = true := by
 simp only [isSer, Bool.and_eq_true, decide_eq_true_eq, List.all_eq_true, isNum]
 exact ⟨⟨⟨by omega, h2⟩, by omega, by omega⟩, fun x hx => by have := h5 x hx; omega⟩
theorem Uo {m : Int} {d : Nat} {a : List Int} (h : Crd m d a) (hm2 : m ≤ 10000) (hd : d ≤ 10) : lawB m (lawT m a d (pc (suT m a d))) = true := by
 have hm := h.hm
 have hd1 := h.hd
 have hp := I5 (show 0 < m by omega) a d (pc (suT m a d))
 refine J8 (Xf hm hm2 hp (by omega) (by omega)) ?_
 rw [hp.len]
 exact N1 h (Md a d)
theorem Ahx {m : Int} {d : Nat} (hm : 1 < m) (hd : 1 ≤ d) : Crd m d (varL d) := ⟨hm, hd, Ad _ _, Tx hm d, by rw [varL, A4 (by omega)]; rfl, by rw [varL, A4 (by omega), if_pos rfl, Xj hm]; rfl⟩
theorem Ad5 {m : Int} {d : Nat} : ∀ u v, u + v ≤ d → pc (adT m d) u v % m = (if u + v = 1 then 1 else 0) % m := fun u v h => by
 rw [adT, Md _ _ u v h, sumF, varL]
 refine congrArg (· % m) ?_
 by_cases hv : v = 0
 ·subst hv
  rw [if_pos rfl, A4 (by omega)]
  by_cases hu : u = 0
  ·subst hu; rw [if_pos rfl, A4 (by omega)]; rfl
  ·rw [if_neg hu, Int.add_zero, Nat.add_zero]
 ·rw [if_neg hv]
  by_cases hu : u = 0
  ·subst hu; rw [if_pos rfl, A4 (by omega), Nat.zero_add, Int.zero_add]
  ·rw [if_neg hu, if_neg (by omega)]; rfl
theorem Tq {m : Int} (hm : 0 < m) (d : Nat) : Pl m (d + 1) (adT m d) := Ot hm _ _
theorem Ah4 {m : Int} {d : Nat} (hm : 1 < m) (hm2 : m ≤ 10000) (hd : 1 ≤ d) (hd2 : d ≤ 10) : lawB m (adT m d) = true := by
 have hp := Tq (show 0 < m by omega) d
 have hc := Ahx hm hd
 refine J8 (Xf hm hm2 hp (by omega) (by omega)) ?_
 rw [hp.len]
 refine W6 hc hp fun R K L x y hx hy => ?_
 have hid : ∀ z : R, LwR.v K d (varL d) z = z := fun z => Zk L (fun i hi => by rw [varL, A4 (by omega)]) z
 have h1 := S6 L Ad5 hx hy
 rw [h1, hid, hid]
 have h2 := P2 L hc (L.S.add hx hy)
 rw [hid] at h2
 exact h2.symm
theorem Aih {m : Int} {d : Nat} {a : List Int} (h : Crd m d a) : hmB m (d + 1) (pc (lawT m a d (pc (suT m a d)))) (pc (adT m d)) a = true := by
 have hm := h.hm
 exact Af5 h (Md a d) (Adw (Tq (by omega) d)) Ad5
theorem Pk {m : Int} {w : List Int} (h : ldC m w = 0) : lawB m (lcT m (igL m w)) = true ∧ (lcT m (igL m w)).length = w.length + 1 ∧ isSer m (doL m (lcT m (igL m w))) = true ∧ scL m (at' w 0) (doL m (lcT m (igL m w))) ((doL m (lcT m (igL m w))).length - 1) = w := by
 obtain ⟨h1, h2, h3, h4⟩ := F2 h
 have f := Bt h1
 have hn := Cs h1
 have hc := Rr h
 rw [Ub w (by omega)]
 have hp := I5 (show 0 < m by omega) (igL m w) w.length (pc (suT m (igL m w) w.length))
 have hl := hp.len
 have hB := Uo hc f.2.2.2.1 h3
 obtain ⟨t, et⟩ : ∃ t, t = lawT m (igL m w) w.length (pc (suT m (igL m w) w.length)) := ⟨_, rfl⟩
 have hg := Te (m := m) (show 0 < m by omega) (t.getD 1 []) (t.length - 2)
 rw [← et] at hl hB ⊢
 have hdl : (doL m t).length = w.length := by rw [doL, It]; omega
 refine ⟨hB, hl, Zo (by omega) f.2.2.2.1 (by omega) (by omega) hg, ?_⟩
 rw [hdl, doL, hl, show w.length + 1 - 2 = w.length - 1 by omega]
 exact Aef hc (by omega) (Md _ _) (Ai5 h) ⟨rfl, hn⟩ (fun j hj => by rw [← et]; rfl)
end Go.Proofs.YtapdekacpecgiaaGreat
