import Derived.Test.YtapdekacpecgiaaGreatKb
namespace Go.Proofs.YtapdekacpecgiaaGreat
open Go.RowKit
set_option linter.unusedSimpArgs false
set_option linter.unusedVariables false
set_option linter.unusedSectionVars false
set_option maxRecDepth 20000
set_option maxHeartbeats 1000000
theorem Acz (l : List Int) (k : Nat) : (intL l).take k = intL (l.take k) := by simp [intL]
set_option maxHeartbeats 4000000 in
theorem Gr (m : Int) (la lb : List (List Int)) (n : Nat) (hm : 0 < m) (hm2 : m ≤ 10000) (ha : Pl m n la) (hb : Pl m n lb) (hn : 1 ≤ n) (hn2 : n ≤ 1000) : AFn Tryz.prog 191 [.agg [.int .i64 m, .sl false 27 (rowsF la)], .agg [.int .i64 m, .sl false 27 (rowsF lb)]] (.agg [.int .i64 m, .sl true 27 (rowsO (pmul m n (pc la) (pc lb)))]) := by
 refine fO Tryz.func191 Tryz.ntmps191 (by rw [Tryz.results191]) fun C hP hM hC => ?_
 have hm0 : m ≠ 0 := by omega
 have hZ0 := C7 m (n - 1) (by omega)
 rw [show n - 1 + 1 = n by omega] at hZ0
 have e0 : tab2 n (fun _ _ => 0) = tab2 n (fun u v => qJ (pc la) (pc lb) 0 0 u v % m) := Av fun u v _ => by rw [Mm, Xa, Int.zero_emod]
 rw [e0] at hZ0
 have hD := A5 m la (by rw [ha.len]; omega)
 rw [ha.len, show (n : Int) - 1 = ((n - 1 : Nat) : Int) by omega] at hD
 (repeat (first | ((with_reducible refine rC rfl fun K hK => ?_); simp only [go_sem, seval, ↓reduceIte, Ac, ha.len]; (first | refine hK _ _ _ ?_ | refine ⟨_, hD, hK _ _ _ ?_⟩ | refine ⟨_, hZ0, hK _ _ _ ?_⟩); clear hK K) | (with_reducible first | refine rN ?_ | refine sQ ?_ | refine tY hC hP ?_ | refine aY hC hM hP ?_ | refine kQ ?_ | refine lQ ?_ | refine eQ ?_ | refine bQ ?_ | refine cTa ?_ | refine cFa ?_) | simp only [qS, Nat.reduceEqDiff, ↓reduceIte]))
 refine AWP.loop (fun i : Nat => [(24, ⟨0, .val (.int .i64 i)⟩), (23, ⟨0, .val (.int .i64 n)⟩), (22, ⟨0, .val (.sl false 27 (rowsF la))⟩), (5, ⟨2, .own (.box 26 (.agg [.int .i64 m, .sl true 27 (rowsO (tab2 n (fun u v => qJ (pc la) (pc lb) i 0 u v % m)))]))⟩), (6, ⟨0, .val (.int .i64 (n - 1 : Nat))⟩), (2, ⟨1, .own (.box 26 (.agg [.int .i64 m, .sl false 27 (rowsF la)]))⟩), (3, ⟨1, .own (.box 26 (.agg [.int .i64 m, .sl false 27 (rowsF lb)]))⟩), (4, ⟨1, .own (.box 26 (.agg [.int .i64 0, .nil]))⟩)]) (fun i => i ≤ n) (fun i => n - i) 0 (Nat.zero_le _) (fun i => rfl) ?_ (fun i hi => ?_)
 ·simp [Sub, lk]
 ·by_cases hin : i < n
  ·have hrow := ha.row i hin
   (repeat (first | ((with_reducible refine rC rfl fun K hK => ?_); simp only [go_sem, seval, ↓reduceIte, show (i : Int) < (n : Int) by omega, Aj la i (by rw [ha.len]; exact hin), Ac, ha.len, Int.toNat_natCast, Int.natCast_nonneg, hrow]; refine hK _ _ _ ?_; clear hK K) | (with_reducible first | refine rN ?_ | refine sQ ?_ | refine tY hC hP ?_ | refine aY hC hM hP ?_ | refine kQ ?_ | refine lQ ?_ | refine eQ ?_ | refine bQ ?_ | refine cTa ?_ | refine cFa ?_) | simp only [qS, Nat.reduceEqDiff, ↓reduceIte]))
   refine AWP.loop (fun j : Nat => [(31, ⟨0, .val (.int .i64 j)⟩), (30, ⟨0, .val (.int .i64 (n - i : Nat))⟩), (29, ⟨0, .val (.sl false 2 (intL (la.getD i [])))⟩), (7, ⟨0, .val (.int .i64 i)⟩), (24, ⟨0, .val (.int .i64 i)⟩), (23, ⟨0, .val (.int .i64 n)⟩), (22, ⟨0, .val (.sl false 27 (rowsF la))⟩), (5, ⟨2, .own (.box 26 (.agg [.int .i64 m, .sl true 27 (rowsO (tab2 n (fun u v => qJ (pc la) (pc lb) i j u v % m)))]))⟩), (6, ⟨0, .val (.int .i64 (n - 1 : Nat))⟩), (2, ⟨1, .own (.box 26 (.agg [.int .i64 m, .sl false 27 (rowsF la)]))⟩), (3, ⟨1, .own (.box 26 (.agg [.int .i64 m, .sl false 27 (rowsF lb)]))⟩), (4, ⟨1, .own (.box 26 (.agg [.int .i64 0, .nil]))⟩)]) (fun j => i + j ≤ n) (fun j => n - j) 0 (by omega) (fun i => rfl) ?_ (fun j hj => ?_)
   ·simp [Sub, lk]
   ·by_cases hjn : i + j < n
    ·have hj1 : j < (la.getD i []).length := by omega
     have hx := ha.num i j
     by_cases h0 : pc la i j = 0
     ·have hE : tab2 n (fun u v => qJ (pc la) (pc lb) i (j + 1) u v % m) = tab2 n (fun u v => qJ (pc la) (pc lb) i j u v % m) := Av fun u v _ => by rw [Pw (.inl h0)]
      (repeat (first | ((with_reducible refine rC rfl fun K hK => ?_); simp only [go_sem, seval, ↓reduceIte, show (j : Int) < ((n - i : Nat) : Int) by omega, Int.toNat_natCast, Int.natCast_nonneg, Aa _ j hj1, hrow, show (la.getD i []).getD j 0 = pc la i j from rfl, h0, show ((0 : Int) == 0) = true from rfl, wid ((j : Int) + 1) (by omega) (by omega)]; refine hK _ _ _ ?_; clear hK K) | (with_reducible first | refine rN ?_ | refine sQ ?_ | refine tY hC hP ?_ | refine aY hC hM hP ?_ | refine kQ ?_ | refine lQ ?_ | refine eQ ?_ | refine bQ ?_ | refine cTa ?_ | refine cFa ?_) | simp only [qS, Nat.reduceEqDiff, ↓reduceIte]))
      exact ⟨j + 1, by omega, by omega, by simp only [hE]; simp [Sub, lk]⟩
     ·(repeat (first | ((with_reducible refine rC rfl fun K hK => ?_); simp only [go_sem, seval, ↓reduceIte, show (j : Int) < ((n - i : Nat) : Int) by omega, Int.toNat_natCast, Int.natCast_nonneg, Aa _ j hj1, hrow, show (la.getD i []).getD j 0 = pc la i j from rfl, show (pc la i j == 0) = false by simpa using h0]; refine hK _ _ _ ?_; clear hK K) | (with_reducible first | refine rN ?_ | refine sQ ?_ | refine tY hC hP ?_ | refine aY hC hM hP ?_ | refine kQ ?_ | refine lQ ?_ | refine eQ ?_ | refine bQ ?_ | refine cTa ?_ | refine cFa ?_) | simp only [qS, Nat.reduceEqDiff, ↓reduceIte]))
      have e1 : tab2 n (fun u v => qJ (pc la) (pc lb) i j u v % m) = tab2 n (fun u v => qL (pc la) (pc lb) m i j 0 0 u v) := Av fun u v _ => (Tu _ _ _ _ _ _ _).symm
      refine AWP.loop (fun k : Nat => [(11, ⟨0, .val (.int .i64 k)⟩), (9, ⟨0, .val (.int .i64 j)⟩), (10, ⟨0, .val (.int .i64 (pc la i j))⟩), (31, ⟨0, .val (.int .i64 j)⟩), (30, ⟨0, .val (.int .i64 (n - i : Nat))⟩), (29, ⟨0, .val (.sl false 2 (intL (la.getD i [])))⟩), (7, ⟨0, .val (.int .i64 i)⟩), (24, ⟨0, .val (.int .i64 i)⟩), (23, ⟨0, .val (.int .i64 n)⟩), (22, ⟨0, .val (.sl false 27 (rowsF la))⟩), (5, ⟨2, .own (.box 26 (.agg [.int .i64 m, .sl true 27 (rowsO (tab2 n (fun u v => qL (pc la) (pc lb) m i j k 0 u v)))]))⟩), (6, ⟨0, .val (.int .i64 (n - 1 : Nat))⟩), (2, ⟨1, .own (.box 26 (.agg [.int .i64 m, .sl false 27 (rowsF la)]))⟩), (3, ⟨1, .own (.box 26 (.agg [.int .i64 m, .sl false 27 (rowsF lb)]))⟩), (4, ⟨1, .own (.box 26 (.agg [.int .i64 0, .nil]))⟩)]) (fun k => i + j + k ≤ n) (fun k => n - k) 0 (by omega) (fun i => rfl) ?_ (fun k hk => ?_)
      ·simp [Sub, lk, ← e1]
      ·have w1 := widK (i + j) (by omega)
       have w2 := widK (i + j + k) (by omega)
       by_cases hkn : i + j + k < n
       ·have hrb := hb.row k (by omega)
        have s1 : IntKind.i64.wrap (((n - 1 : Nat) : Int) - (i : Int)) = ((n - 1 - i : Nat) : Int) := by rw [wid _ (by omega) (by omega)]; omega
        have s2 : IntKind.i64.wrap (((n - 1 - i : Nat) : Int) - (j : Int)) = ((n - 1 - i - j : Nat) : Int) := by rw [wid _ (by omega) (by omega)]; omega
        have s3 : IntKind.i64.wrap (((n - 1 - i - j : Nat) : Int) - (k : Int)) = ((n - 1 - i - j - k : Nat) : Int) := by rw [wid _ (by omega) (by omega)]; omega
        have s4 : IntKind.i64.wrap (((n - 1 - i - j - k : Nat) : Int) + 1) = ((n - i - j - k : Nat) : Int) := by rw [wid _ (by omega) (by omega)]; omega
        (repeat (first | ((with_reducible refine rC rfl fun K hK => ?_); simp only [go_sem, seval, ↓reduceIte, ← Int.natCast_add, w1, w2, show ((i + j + k : Nat) : Int) ≤ ((n - 1 : Nat) : Int) by omega, Aj lb k (by rw [hb.len]; omega), Ac, hb.len, Int.toNat_natCast, Int.natCast_nonneg, show (k : Int) < (n : Int) by omega, s1, s2, s3, s4, hrb, show ((n - i - j - k : Nat) : Int) ≤ ((n - k : Nat) : Int) by omega, List.drop_zero, Nat.sub_zero, Int.toNat_zero, Int.le_refl, Acz, List.length_take, Nat.min_eq_left (show n - i - j - k ≤ n - k by omega)]; refine hK _ _ _ ?_; clear hK K) | (with_reducible first | refine rN ?_ | refine sQ ?_ | refine tY hC hP ?_ | refine aY hC hM hP ?_ | refine kQ ?_ | refine lQ ?_ | refine eQ ?_ | refine bQ ?_ | refine cTa ?_ | refine cFa ?_) | simp only [qS, Nat.reduceEqDiff, ↓reduceIte]))
        have htl : ((lb.getD k []).take (n - i - j - k)).length = n - i - j - k := by rw [List.length_take, hrb]; omega
        refine AWP.loop (fun l : Nat => [(62, ⟨0, .val (.int .i64 l)⟩), (61, ⟨0, .val (.int .i64 (n - i - j - k : Nat))⟩), (60, ⟨0, .val (.sl false 2 (intL ((lb.getD k []).take (n - i - j - k))))⟩), (11, ⟨0, .val (.int .i64 k)⟩), (9, ⟨0, .val (.int .i64 j)⟩), (10, ⟨0, .val (.int .i64 (pc la i j))⟩), (31, ⟨0, .val (.int .i64 j)⟩), (30, ⟨0, .val (.int .i64 (n - i : Nat))⟩), (29, ⟨0, .val (.sl false 2 (intL (la.getD i [])))⟩), (7, ⟨0, .val (.int .i64 i)⟩), (24, ⟨0, .val (.int .i64 i)⟩), (23, ⟨0, .val (.int .i64 n)⟩), (22, ⟨0, .val (.sl false 27 (rowsF la))⟩), (5, ⟨2, .own (.box 26 (.agg [.int .i64 m, .sl true 27 (rowsO (tab2 n (fun u v => qL (pc la) (pc lb) m i j k l u v)))]))⟩), (6, ⟨0, .val (.int .i64 (n - 1 : Nat))⟩), (2, ⟨1, .own (.box 26 (.agg [.int .i64 m, .sl false 27 (rowsF la)]))⟩), (3, ⟨1, .own (.box 26 (.agg [.int .i64 m, .sl false 27 (rowsF lb)]))⟩), (4, ⟨1, .own (.box 26 (.agg [.int .i64 0, .nil]))⟩)]) (fun l => i + j + k + l ≤ n) (fun l => n - l) 0 (by omega) (fun i => rfl) ?_ (fun l hl => ?_)
        ·simp [Sub, lk]
        ·by_cases hln : i + j + k + l < n
         ·have w3 := widK (i + k) (by omega)
          have w5 := widK (j + l) (by omega)
          have hikl : i + k < (tab2 n (fun u v => qL (pc la) (pc lb) m i j k l u v)).length := by rw [Am]; omega
          have hcol : j + l < (tab (n - (i + k)) (qL (pc la) (pc lb) m i j k l (i + k))).length := by rw [Ad]; omega
          have hl1 : l < ((lb.getD k []).take (n - i - j - k)).length := by omega
          have hy := hb.num k l
          have hM2 := Et m (pc la i j) (pc lb k l) hm (by omega) hx.1 hx.2 hy.1 hy.2
          have hz := As (pc la i j * pc lb k l) m hm
          have hp := As (qJ (pc la) (pc lb) i j (i + k) (j + l)) m hm
          have g1 : (tab (n - (i + k)) (qL (pc la) (pc lb) m i j k l (i + k))).getD (j + l) 0 = qJ (pc la) (pc lb) i j (i + k) (j + l) % m := by rw [Dd (by omega), Agw]
          have g2 : ((lb.getD k []).take (n - i - j - k)).getD l 0 = pc lb k l := by simp [pc, at', List.getD_eq_getElem?_getD, List.getElem?_take_of_lt (show l < n - i - j - k by omega)]
          have g3 : (qJ (pc la) (pc lb) i j (i + k) (j + l) % m + pc la i j * pc lb k l % m) % m = qJ (pc la) (pc lb) i (j + 1) (i + k) (j + l) % m := by rw [Int.add_emod_emod, Ab7]
          have hst : (tab2 n (fun u v => qL (pc la) (pc lb) m i j k l u v)).set (i + k) ((tab (n - (i + k)) (qL (pc la) (pc lb) m i j k l (i + k))).set (j + l) (qJ (pc la) (pc lb) i (j + 1) (i + k) (j + l) % m)) = tab2 n (fun u v => qL (pc la) (pc lb) m i j k (l + 1) u v) := D8 (fun a b _ => Ads _ _ _ i j k l a b)
          (repeat (first | ((with_reducible refine rC rfl fun K hK => ?_); simp only [go_sem, seval, ↓reduceIte, show (l : Int) < ((n - i - j - k : Nat) : Int) by omega, Aa _ l hl1, htl, Int.toNat_natCast, Int.natCast_nonneg, g2, ← Int.natCast_add, w3, w5, Au _ _ hikl, An _ _ (Nat.le_of_lt hikl), Ai, Am, Bu (show i + k < n by omega), show ((i + k : Nat) : Int) < (n : Int) by omega, Nat.mul_one, Ae _ _ hcol, Ab _ _ (Nat.le_of_lt hcol), Ad, show ((j + l : Nat) : Int) < ((n - (i + k) : Nat) : Int) by omega, g1, wid (qJ (pc la) (pc lb) i j (i + k) (j + l) % m + pc la i j * pc lb k l % m) (by omega) (by omega), tm (qJ (pc la) (pc lb) i j (i + k) (j + l) % m + pc la i j * pc lb k l % m) m (by omega), g3, hm0, Bq _ _ _ _ hikl, hst, wid ((l : Int) + 1) (by omega) (by omega)]; (first | refine hK _ _ _ ?_ | refine ⟨_, hM2, hK _ _ _ ?_⟩); clear hK K) | (with_reducible first | refine rN ?_ | refine sQ ?_ | refine tY hC hP ?_ | refine aY hC hM hP ?_ | refine kQ ?_ | refine lQ ?_ | refine eQ ?_ | refine bQ ?_ | refine cTa ?_ | refine cFa ?_) | simp only [qS, Nat.reduceEqDiff, ↓reduceIte]))
          exact ⟨l + 1, by omega, by omega, by simp [Sub, lk]⟩
         ·have hE : tab2 n (fun u v => qL (pc la) (pc lb) m i j k l u v) = tab2 n (fun u v => qL (pc la) (pc lb) m i j (k + 1) 0 u v) := Av fun u v huv => Adl (by omega) huv
          (repeat (first | ((with_reducible refine rC rfl fun K hK => ?_); simp only [go_sem, seval, ↓reduceIte, show ¬ (l : Int) < ((n - i - j - k : Nat) : Int) by omega, wid ((k : Int) + 1) (by omega) (by omega)]; refine hK _ _ _ ?_; clear hK K) | (with_reducible first | refine rN ?_ | refine sQ ?_ | refine tY hC hP ?_ | refine aY hC hM hP ?_ | refine kQ ?_ | refine lQ ?_ | refine eQ ?_ | refine bQ ?_ | refine cTa ?_ | refine cFa ?_) | simp only [qS, Nat.reduceEqDiff, ↓reduceIte]))
          exact ⟨k + 1, by omega, by omega, by simp only [hE]; simp [Sub, lk]⟩
       ·have hE : tab2 n (fun u v => qL (pc la) (pc lb) m i j k 0 u v) = tab2 n (fun u v => qJ (pc la) (pc lb) i (j + 1) u v % m) := Av fun u v huv => Acf (by omega) huv
        (repeat (first | ((with_reducible refine rC rfl fun K hK => ?_); simp only [go_sem, seval, ↓reduceIte, ← Int.natCast_add, w1, w2, show ¬ ((i + j + k : Nat) : Int) ≤ ((n - 1 : Nat) : Int) by omega, wid ((j : Int) + 1) (by omega) (by omega)]; refine hK _ _ _ ?_; clear hK K) | (with_reducible first | refine rN ?_ | refine sQ ?_ | refine tY hC hP ?_ | refine aY hC hM hP ?_ | refine kQ ?_ | refine lQ ?_ | refine eQ ?_ | refine bQ ?_ | refine cTa ?_ | refine cFa ?_) | simp only [qS, Nat.reduceEqDiff, ↓reduceIte]))
        exact ⟨j + 1, by omega, by omega, by simp only [hE]; simp [Sub, lk]⟩
    ·have hE := Xb (m := m) (n := n) (i := i) (q := j) (a := pc la) (b := pc lb) (by omega)
     (repeat (first | ((with_reducible refine rC rfl fun K hK => ?_); simp only [go_sem, seval, ↓reduceIte, show ¬ (j : Int) < ((n - i : Nat) : Int) by omega, wid ((i : Int) + 1) (by omega) (by omega)]; refine hK _ _ _ ?_; clear hK K) | (with_reducible first | refine rN ?_ | refine sQ ?_ | refine tY hC hP ?_ | refine aY hC hM hP ?_ | refine kQ ?_ | refine lQ ?_ | refine eQ ?_ | refine bQ ?_ | refine cTa ?_ | refine cFa ?_) | simp only [qS, Nat.reduceEqDiff, ↓reduceIte]))
     exact ⟨i + 1, by omega, by omega, by simp only [hE]; simp [Sub, lk]⟩
  ·have hie : i = n := by omega
   subst hie
   (repeat (first | ((with_reducible refine rC rfl fun K hK => ?_); simp only [go_sem, seval, ↓reduceIte, show ¬ (i : Int) < (i : Int) by omega]; refine hK _ _ _ ?_; clear hK K) | (with_reducible first | refine rN ?_ | refine sQ ?_ | refine tY hC hP ?_ | refine aY hC hM hP ?_ | refine kQ ?_ | refine lQ ?_ | refine eQ ?_ | refine bQ ?_ | refine cTa ?_ | refine cFa ?_) | simp only [qS, Nat.reduceEqDiff, ↓reduceIte]))
   refine rt1 ?_
   rw [Sq]
end Go.Proofs.YtapdekacpecgiaaGreat
