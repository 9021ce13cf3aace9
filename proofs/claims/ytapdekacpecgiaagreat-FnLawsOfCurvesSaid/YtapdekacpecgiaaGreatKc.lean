import Derived.Test.YtapdekacpecgiaaGreatKb
namespace Go.Proofs.YtapdekacpecgiaaGreat
open Go.RowKit
set_option linter.unusedSimpArgs false
set_option linter.unusedVariables false
set_option linter.unusedSectionVars false
set_option maxRecDepth 20000
set_option maxHeartbeats 1000000
set_option maxHeartbeats 4000000 in
theorem B5 (m : Int) (la lb : List (List Int)) (n : Nat) (hm : 0 < m) (hm2 : m ≤ 10000) (ha : Pl m n la) (hb : Pl m n lb) (hn : 1 ≤ n) (hn2 : n ≤ 1000) : AFn Tryz.prog 192 [.int .i64 m, .sl false 27 (rowsF la), .sl false 27 (rowsF lb)] (.sl true 27 (rowsO (pmul m n (pc la) (pc lb)))) := by
 refine fO Tryz.func192 Tryz.ntmps192 (by rw [Tryz.results192]) fun C hP hM hC => ?_
 have hm0 : m ≠ 0 := by omega
 have hZ0 := B2 (n - 1) (by omega)
 rw [show n - 1 + 1 = n by omega] at hZ0
 have e0 : tab2 n (fun _ _ => 0) = tab2 n (fun u v => qJ (pc la) (pc lb) 0 0 u v % m) := Av fun u v _ => by rw [Mm, Xa, Int.zero_emod]
 rw [e0] at hZ0
 (repeat (first | ((with_reducible refine rC rfl fun K hK => ?_); simp only [go_sem, seval, ↓reduceIte, Ac, ha.len, show IntKind.i64.wrap ((n : Int) - 1) = ((n - 1 : Nat) : Int) by rw [wid _ (by omega) (by omega)]; omega]; (first | refine hK _ _ _ ?_ | refine ⟨_, hZ0, hK _ _ _ ?_⟩); clear hK K) | (with_reducible first | refine rN ?_ | refine sQ ?_ | refine tY hC hP ?_ | refine aY hC hM hP ?_ | refine kQ ?_ | refine lQ ?_ | refine eQ ?_ | refine bQ ?_ | refine cTa ?_ | refine cFa ?_) | simp only [qS, Nat.reduceEqDiff, ↓reduceIte]))
 refine AWP.loop (fun i : Nat => [(9, ⟨0, .val (.int .i64 i)⟩), (8, ⟨1, .own (.sl true 27 (rowsO (tab2 n (fun u v => qJ (pc la) (pc lb) i 0 u v % m))))⟩), (7, ⟨0, .val (.int .i64 n)⟩), (0, ⟨0, .val (.int .i64 m)⟩), (1, ⟨0, .val (.sl false 27 (rowsF la))⟩), (2, ⟨0, .val (.sl false 27 (rowsF lb))⟩)]) (fun i => i ≤ n) (fun i => n - i) 0 (Nat.zero_le _) (fun i => rfl) ?_ (fun i hi => ?_)
 ·simp [Sub, lk]
 ·by_cases hin : i < n
  ·(repeat (first | ((with_reducible refine rC rfl fun K hK => ?_); simp only [go_sem, seval, ↓reduceIte, show (i : Int) < (n : Int) by omega]; refine hK _ _ _ ?_; clear hK K) | (with_reducible first | refine rN ?_ | refine sQ ?_ | refine tY hC hP ?_ | refine aY hC hM hP ?_ | refine kQ ?_ | refine lQ ?_ | refine eQ ?_ | refine bQ ?_ | refine cTa ?_ | refine cFa ?_) | simp only [qS, Nat.reduceEqDiff, ↓reduceIte]))
   refine AWP.loop (fun j : Nat => [(10, ⟨0, .val (.int .i64 j)⟩), (9, ⟨0, .val (.int .i64 i)⟩), (8, ⟨1, .own (.sl true 27 (rowsO (tab2 n (fun u v => qJ (pc la) (pc lb) i j u v % m))))⟩), (7, ⟨0, .val (.int .i64 n)⟩), (0, ⟨0, .val (.int .i64 m)⟩), (1, ⟨0, .val (.sl false 27 (rowsF la))⟩), (2, ⟨0, .val (.sl false 27 (rowsF lb))⟩)]) (fun j => i + j ≤ n) (fun j => n - j) 0 (by omega) (fun i => rfl) ?_ (fun j hj => ?_)
   ·simp [Sub, lk]
   ·have w1 := widK (i + j) (by omega)
    by_cases hjn : i + j < n
    ·have hrow := ha.row i hin
     have hj1 : j < (la.getD i []).length := by omega
     have hx := ha.num i j
     by_cases h0 : pc la i j = 0
     ·have hE : tab2 n (fun u v => qJ (pc la) (pc lb) i (j + 1) u v % m) = tab2 n (fun u v => qJ (pc la) (pc lb) i j u v % m) := Av fun u v _ => by rw [Pw (.inl h0)]
      (repeat (first | ((with_reducible refine rC rfl fun K hK => ?_); simp only [go_sem, seval, ↓reduceIte, ← Int.natCast_add, w1, show ((i + j : Nat) : Int) < (n : Int) by omega, Aj la i (by rw [ha.len]; exact hin), Ac, ha.len, Int.toNat_natCast, Int.natCast_nonneg, show (i : Int) < (n : Int) by omega, Aa _ j hj1, hrow, show ((j : Nat) : Int) < ((n - i : Nat) : Int) by omega, show (la.getD i []).getD j 0 = pc la i j from rfl, h0, show ((0 : Int) == 0) = true from rfl, wid ((j : Int) + 1) (by omega) (by omega)]; refine hK _ _ _ ?_; clear hK K) | (with_reducible first | refine rN ?_ | refine sQ ?_ | refine tY hC hP ?_ | refine aY hC hM hP ?_ | refine kQ ?_ | refine lQ ?_ | refine eQ ?_ | refine bQ ?_ | refine cTa ?_ | refine cFa ?_) | simp only [qS, Nat.reduceEqDiff, ↓reduceIte]))
      exact ⟨j + 1, by omega, by omega, by simp only [hE]; simp [Sub, lk]⟩
     ·(repeat (first | ((with_reducible refine rC rfl fun K hK => ?_); simp only [go_sem, seval, ↓reduceIte, ← Int.natCast_add, w1, show ((i + j : Nat) : Int) < (n : Int) by omega, Aj la i (by rw [ha.len]; exact hin), Ac, ha.len, Int.toNat_natCast, Int.natCast_nonneg, show (i : Int) < (n : Int) by omega, Aa _ j hj1, hrow, show ((j : Nat) : Int) < ((n - i : Nat) : Int) by omega, show (la.getD i []).getD j 0 = pc la i j from rfl, show (pc la i j == 0) = false by simpa using h0]; refine hK _ _ _ ?_; clear hK K) | (with_reducible first | refine rN ?_ | refine sQ ?_ | refine tY hC hP ?_ | refine aY hC hM hP ?_ | refine kQ ?_ | refine lQ ?_ | refine eQ ?_ | refine bQ ?_ | refine cTa ?_ | refine cFa ?_) | simp only [qS, Nat.reduceEqDiff, ↓reduceIte]))
      have e1 : tab2 n (fun u v => qJ (pc la) (pc lb) i j u v % m) = tab2 n (fun u v => qL (pc la) (pc lb) m i j 0 0 u v) := Av fun u v _ => (Tu _ _ _ _ _ _ _).symm
      refine AWP.loop (fun k : Nat => [(11, ⟨0, .val (.int .i64 k)⟩), (10, ⟨0, .val (.int .i64 j)⟩), (9, ⟨0, .val (.int .i64 i)⟩), (8, ⟨1, .own (.sl true 27 (rowsO (tab2 n (fun u v => qL (pc la) (pc lb) m i j k 0 u v))))⟩), (7, ⟨0, .val (.int .i64 n)⟩), (0, ⟨0, .val (.int .i64 m)⟩), (1, ⟨0, .val (.sl false 27 (rowsF la))⟩), (2, ⟨0, .val (.sl false 27 (rowsF lb))⟩)]) (fun k => i + j + k ≤ n) (fun k => n - k) 0 (by omega) (fun i => rfl) ?_ (fun k hk => ?_)
      ·simp [Sub, lk, ← e1]
      ·have w2 := widK (i + j + k) (by omega)
       have w3 := widK (i + k) (by omega)
       by_cases hkn : i + j + k < n
       ·have hik : i + k < (tab2 n (fun u v => qL (pc la) (pc lb) m i j k 0 u v)).length := by rw [Am]; omega
        (repeat (first | ((with_reducible refine rC rfl fun K hK => ?_); simp only [go_sem, seval, ↓reduceIte, ← Int.natCast_add, w1, w2, w3, show ((i + j + k : Nat) : Int) < (n : Int) by omega, Au _ _ hik, An _ _ (Nat.le_of_lt hik), Ai, Am, Nat.mul_one, show ((i + k : Nat) : Int) < (n : Int) by omega, Aj lb k (by rw [hb.len]; omega), Ac, hb.len, Int.toNat_natCast, Int.natCast_nonneg, show (k : Int) < (n : Int) by omega]; refine hK _ _ _ ?_; clear hK K) | (with_reducible first | refine rN ?_ | refine sQ ?_ | refine tY hC hP ?_ | refine aY hC hM hP ?_ | refine kQ ?_ | refine lQ ?_ | refine eQ ?_ | refine bQ ?_ | refine cTa ?_ | refine cFa ?_) | simp only [qS, Nat.reduceEqDiff, ↓reduceIte]))
        refine AWP.loop (fun l : Nat => [(14, ⟨0, .val (.int .i64 l)⟩), (13, ⟨0, .val (.sl false 2 (intL (lb.getD k [])))⟩), (12, ⟨0, .val (.ref 8 1 [i + k])⟩), (11, ⟨0, .val (.int .i64 k)⟩), (10, ⟨0, .val (.int .i64 j)⟩), (9, ⟨0, .val (.int .i64 i)⟩), (8, ⟨1, .own (.sl true 27 (rowsO (tab2 n (fun u v => qL (pc la) (pc lb) m i j k l u v))))⟩), (7, ⟨0, .val (.int .i64 n)⟩), (0, ⟨0, .val (.int .i64 m)⟩), (1, ⟨0, .val (.sl false 27 (rowsF la))⟩), (2, ⟨0, .val (.sl false 27 (rowsF lb))⟩)]) (fun l => i + j + k + l ≤ n) (fun l => n - l) 0 (by omega) (fun i => rfl) ?_ (fun l hl => ?_)
        ·simp [Sub, lk]
        ·have w4 := widK (i + j + k + l) (by omega)
         have w5 := widK (j + l) (by omega)
         by_cases hln : i + j + k + l < n
         ·have hikl : i + k < (tab2 n (fun u v => qL (pc la) (pc lb) m i j k l u v)).length := by rw [Am]; omega
          have hcol : j + l < (tab (n - (i + k)) (qL (pc la) (pc lb) m i j k l (i + k))).length := by rw [Ad]; omega
          have hrb := hb.row k (by omega)
          have hl1 : l < (lb.getD k []).length := by omega
          have hy := hb.num k l
          have hxy := Dn hx.1 hx.2 hy.1 hy.2 hm2
          have hp := As (qJ (pc la) (pc lb) i j (i + k) (j + l)) m hm
          have g1 : (tab (n - (i + k)) (qL (pc la) (pc lb) m i j k l (i + k))).getD (j + l) 0 = qJ (pc la) (pc lb) i j (i + k) (j + l) % m := by rw [Dd (by omega), Agw]
          have hst : (tab2 n (fun u v => qL (pc la) (pc lb) m i j k l u v)).set (i + k) ((tab (n - (i + k)) (qL (pc la) (pc lb) m i j k l (i + k))).set (j + l) (qJ (pc la) (pc lb) i (j + 1) (i + k) (j + l) % m)) = tab2 n (fun u v => qL (pc la) (pc lb) m i j k (l + 1) u v) := D8 (fun a b _ => Ads _ _ _ i j k l a b)
          (repeat (first | ((with_reducible refine rC rfl fun K hK => ?_); simp only [go_sem, seval, ↓reduceIte, ← Int.natCast_add, w1, w2, w4, w5, show ((i + j + k + l : Nat) : Int) < (n : Int) by omega, Au _ _ hikl, An _ _ (Nat.le_of_lt hikl), Ai, Am, Bu (show i + k < n by omega), Nat.mul_one, Ae _ _ hcol, Ab _ _ (Nat.le_of_lt hcol), Ad, show ((j + l : Nat) : Int) < ((n - (i + k) : Nat) : Int) by omega, g1, Aj la i (by rw [ha.len]; exact hin), Ac, ha.len, hrow, Int.toNat_natCast, Int.natCast_nonneg, show (i : Int) < (n : Int) by omega, Aa _ j hj1, show ((j : Nat) : Int) < ((n - i : Nat) : Int) by omega, show (la.getD i []).getD j 0 = pc la i j from rfl, Aa _ l hl1, hrb, show (l : Int) < ((n - k : Nat) : Int) by omega, show (lb.getD k []).getD l 0 = pc lb k l from rfl, wid (pc la i j * pc lb k l) (by omega) (by omega), wid (qJ (pc la) (pc lb) i j (i + k) (j + l) % m + pc la i j * pc lb k l) (by omega) (by omega), tm (qJ (pc la) (pc lb) i j (i + k) (j + l) % m + pc la i j * pc lb k l) m (by omega), Ab7, hm0, Bq _ _ _ _ hikl, hst, wid ((l : Int) + 1) (by omega) (by omega)]; refine hK _ _ _ ?_; clear hK K) | (with_reducible first | refine rN ?_ | refine sQ ?_ | refine tY hC hP ?_ | refine aY hC hM hP ?_ | refine kQ ?_ | refine lQ ?_ | refine eQ ?_ | refine bQ ?_ | refine cTa ?_ | refine cFa ?_) | simp only [qS, Nat.reduceEqDiff, ↓reduceIte]))
          exact ⟨l + 1, by omega, by omega, by simp [Sub, lk]⟩
         ·have hE : tab2 n (fun u v => qL (pc la) (pc lb) m i j k l u v) = tab2 n (fun u v => qL (pc la) (pc lb) m i j (k + 1) 0 u v) := Av fun u v huv => Adl (by omega) huv
          (repeat (first | ((with_reducible refine rC rfl fun K hK => ?_); simp only [go_sem, seval, ↓reduceIte, ← Int.natCast_add, w1, w2, w4, show ¬ ((i + j + k + l : Nat) : Int) < (n : Int) by omega, wid ((k : Int) + 1) (by omega) (by omega)]; refine hK _ _ _ ?_; clear hK K) | (with_reducible first | refine rN ?_ | refine sQ ?_ | refine tY hC hP ?_ | refine aY hC hM hP ?_ | refine kQ ?_ | refine lQ ?_ | refine eQ ?_ | refine bQ ?_ | refine cTa ?_ | refine cFa ?_) | simp only [qS, Nat.reduceEqDiff, ↓reduceIte]))
          exact ⟨k + 1, by omega, by omega, by simp only [hE]; simp [Sub, lk]⟩
       ·have hE : tab2 n (fun u v => qL (pc la) (pc lb) m i j k 0 u v) = tab2 n (fun u v => qJ (pc la) (pc lb) i (j + 1) u v % m) := Av fun u v huv => Acf (by omega) huv
        (repeat (first | ((with_reducible refine rC rfl fun K hK => ?_); simp only [go_sem, seval, ↓reduceIte, ← Int.natCast_add, w1, w2, show ¬ ((i + j + k : Nat) : Int) < (n : Int) by omega, wid ((j : Int) + 1) (by omega) (by omega)]; refine hK _ _ _ ?_; clear hK K) | (with_reducible first | refine rN ?_ | refine sQ ?_ | refine tY hC hP ?_ | refine aY hC hM hP ?_ | refine kQ ?_ | refine lQ ?_ | refine eQ ?_ | refine bQ ?_ | refine cTa ?_ | refine cFa ?_) | simp only [qS, Nat.reduceEqDiff, ↓reduceIte]))
        exact ⟨j + 1, by omega, by omega, by simp only [hE]; simp [Sub, lk]⟩
    ·have hE := Xb (m := m) (n := n) (i := i) (q := j) (a := pc la) (b := pc lb) (by omega)
     (repeat (first | ((with_reducible refine rC rfl fun K hK => ?_); simp only [go_sem, seval, ↓reduceIte, ← Int.natCast_add, w1, show ¬ ((i + j : Nat) : Int) < (n : Int) by omega, wid ((i : Int) + 1) (by omega) (by omega)]; refine hK _ _ _ ?_; clear hK K) | (with_reducible first | refine rN ?_ | refine sQ ?_ | refine tY hC hP ?_ | refine aY hC hM hP ?_ | refine kQ ?_ | refine lQ ?_ | refine eQ ?_ | refine bQ ?_ | refine cTa ?_ | refine cFa ?_) | simp only [qS, Nat.reduceEqDiff, ↓reduceIte]))
     exact ⟨i + 1, by omega, by omega, by simp only [hE]; simp [Sub, lk]⟩
  ·have hie : i = n := by omega
   subst hie
   (repeat (first | ((with_reducible refine rC rfl fun K hK => ?_); simp only [go_sem, seval, ↓reduceIte, show ¬ (i : Int) < (i : Int) by omega]; refine hK _ _ _ ?_; clear hK K) | (with_reducible first | refine rN ?_ | refine sQ ?_ | refine tY hC hP ?_ | refine aY hC hM hP ?_ | refine kQ ?_ | refine lQ ?_ | refine eQ ?_ | refine bQ ?_ | refine cTa ?_ | refine cFa ?_) | simp only [qS, Nat.reduceEqDiff, ↓reduceIte]))
   refine rt1 ?_
   rw [Sq]
end Go.Proofs.YtapdekacpecgiaaGreat
