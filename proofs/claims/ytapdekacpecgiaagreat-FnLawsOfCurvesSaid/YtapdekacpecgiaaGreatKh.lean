import Derived.Test.YtapdekacpecgiaaGreatKg
namespace Go.Proofs.YtapdekacpecgiaaGreat
open Go.RowKit
set_option linter.unusedSimpArgs false
set_option linter.unusedVariables false
set_option linter.unusedSectionVars false
set_option maxRecDepth 20000
set_option maxHeartbeats 1000000
def tabsO (L : List (List (List Int))) : List T := L.map fun ll => (.sl true 27 (rowsO ll))
theorem Fs (L : List (List (List Int))) : (tabsO L).length = L.length := by simp [tabsO]
theorem Kb (L : List (List (List Int))) (i : Nat) (h : i < L.length) : (tabsO L)[i]? = some (.sl true 27 (rowsO (L.getD i []))) := by
 simp [tabsO, List.getD_eq_getElem?_getD, h]
theorem Gb (L : List (List (List Int))) (i : Nat) (h : i ≤ L.length) : T.sizeL ((tabsO L).take i) = i := by
 rw [A9 (n := 1) (fun t ht => by
  have ht := List.mem_of_mem_take ht
  simp only [tabsO, List.mem_map] at ht
  obtain ⟨x, _, rfl⟩ := ht
  rfl)]
 simp [Fs]; omega
theorem Zp (L : List (List (List Int))) (ll : List (List Int)) : tabsO L ++ [.sl true 27 (rowsO ll)] = tabsO (L ++ [ll]) := by simp [tabsO]
def lfL (m : Int) (n : Nat) (ll : List (List Int)) (c : Nat) : List (List Int) := aftL m n (pc ll) (tab (n - c) (fun i => pc ll i c)) (n - c)
def rtL (m : Int) (n : Nat) (ll : List (List Int)) (a : Nat) : List (List Int) := aftL m n (pc ll) (ll.getD a []) (n - a)
theorem Ai1 {m : Int} (hm : 0 < m) {n : Nat} {ll : List (List Int)} {a b c : Nat} (h : a + b < n) : pc (lfL m n ll c) a b = lfS m n (pc ll) a b c % m := by
 have h1 := Jr hm (t := pc ll) (c := tab (n - c) (fun i => pc ll i c)) h
 rw [Ad] at h1
 rw [lfL, h1, lfS]
 exact Bd fun i hi => by rw [A4 hi]
theorem Ais {m : Int} (hm : 0 < m) {n : Nat} {ll : List (List Int)} {a b c : Nat} (hl : Pl m n ll) (ha : a < n) (h : b + c < n) : pc (rtL m n ll a) b c = rtS m n (pc ll) a b c % m := by
 have h1 := Jr hm (t := pc ll) (c := ll.getD a []) h
 rw [hl.row a ha] at h1
 rw [rtL, h1, rtS]; rfl
def seqT (k : Nat) (f : Nat → List (List Int)) : List (List (List Int)) := (List.range k).map f
theorem Ex (k : Nat) (f : Nat → List (List Int)) : (seqT k f).length = k := by simp [seqT]
theorem H4 {k i : Nat} {f : Nat → List (List Int)} (h : i < k) : (seqT k f).getD i [] = f i := by simp [seqT, List.getD_eq_getElem?_getD, h]
theorem Qt (k : Nat) (f : Nat → List (List Int)) : seqT k f ++ [f k] = seqT (k + 1) f := by simp [seqT, List.range_succ]
theorem Abi {n : Nat} {t : Nat → Nat → Int} {i j : Nat} (h : j ≤ i) : ok2 n t i j := fun h1 => by omega
theorem O3 {n : Nat} {t : Nat → Nat → Int} {i j : Nat} (h : n ≤ i + j) : ok2 n t i j := fun _ h1 => by omega
theorem I9 {m : Int} {n : Nat} {t : Nat → Nat → Int} {a b c : Nat} (h : n ≤ a + b + c) : ok3 m n t a b c := fun h1 => by omega
set_option maxHeartbeats 4000000 in
theorem O2 (m : Int) (ll : List (List Int)) (n : Nat) (r : T) (hm : 0 < m) (hm2 : m ≤ 10000) (hl : Pl m n ll) (hn : 1 ≤ n) (hn2 : n ≤ 1000) (hr : FaultR m n (pc ll) r) : AFn Tryz.prog 224 [.agg [.int .i64 m, .sl false 27 (rowsF ll)]] r := by
 refine fO Tryz.func224 Tryz.ntmps224 (by rw [Tryz.results224]) fun C hP hM hC => ?_
 (repeat (first | ((with_reducible refine rC rfl fun K hK => ?_); simp only [go_sem, seval, ↓reduceIte, Ac, hl.len]; refine hK _ _ _ ?_; clear hK K) | (with_reducible first | refine rN ?_ | refine sQ ?_ | refine tY hC hP ?_ | refine aY hC hM hP ?_ | refine kQ ?_ | refine lQ ?_ | refine eQ ?_ | refine bQ ?_ | refine cTa ?_ | refine cFa ?_) | simp only [qS, Nat.reduceEqDiff, ↓reduceIte]))
 refine AWP.loop (fun i : Nat => [(5, ⟨0, .val (.int .i64 i)⟩), (3, ⟨0, .val (.int .i64 n)⟩), (4, ⟨0, .val (.sl false 27 (rowsF ll))⟩), (1, ⟨1, .own (.box 26 (.agg [.int .i64 m, .sl false 27 (rowsF ll)]))⟩)]) (fun i => i ≤ n ∧ ∀ i', i' < i → ok1 (pc ll) i') (fun i => n - i) 0 ⟨Nat.zero_le _, fun i hi => absurd hi (Nat.not_lt_zero _)⟩ (fun i => rfl) ?_ (fun i hi => ?_)
 ·simp [Sub, lk]
 ·by_cases hin : i < n
  ·have hrow := hl.row i hin
   have hj : 0 < (ll.getD i []).length := by omega
   by_cases h1 : i = 1
   ·by_cases hok : ok1 (pc ll) i
    ·have hv : pc ll i 0 = 1 := by have := hok; unfold ok1 at this; rwa [if_pos h1] at this
     (repeat (first | ((with_reducible refine rC rfl fun K hK => ?_); simp only [go_sem, seval, ↓reduceIte, show (i : Int) < (n : Int) by omega, show ((i : Int) == 1) = true by subst h1; rfl, Aj ll i (by rw [hl.len]; exact hin), Ac, hl.len, Int.toNat_natCast, Int.natCast_nonneg, Int.le_refl, Int.toNat_zero, Aa _ _ hj, hrow, show (0 : Int) < ((n - i : Nat) : Int) by omega, show (ll.getD i []).getD 0 0 = pc ll i 0 from rfl, hv, show ((1 : Int) != 1) = false from rfl, wid ((i : Int) + 1) (by omega) (by omega)]; refine hK _ _ _ ?_; clear hK K) | (with_reducible first | refine rN ?_ | refine sQ ?_ | refine tY hC hP ?_ | refine aY hC hM hP ?_ | refine kQ ?_ | refine lQ ?_ | refine eQ ?_ | refine bQ ?_ | refine cTa ?_ | refine cFa ?_) | simp only [qS, Nat.reduceEqDiff, ↓reduceIte]))
     refine ⟨i + 1, ⟨by omega, fun i' hi' => ?_⟩, by omega, by simp [Sub, lk]⟩
     by_cases e : i' = i
     ·rw [e]; exact hok
     ·exact hi.2 i' (by omega)
    ·have hv : (pc ll i 0 != 1) = true := by
      have := hok; unfold ok1 at this; rw [if_pos h1] at this; simpa using this
     (repeat (first | ((with_reducible refine rC rfl fun K hK => ?_); simp only [go_sem, seval, ↓reduceIte, show (i : Int) < (n : Int) by omega, show ((i : Int) == 1) = true by subst h1; rfl, Aj ll i (by rw [hl.len]; exact hin), Ac, hl.len, Int.toNat_natCast, Int.natCast_nonneg, Int.le_refl, Int.toNat_zero, Aa _ _ hj, hrow, show (0 : Int) < ((n - i : Nat) : Int) by omega, show (ll.getD i []).getD 0 0 = pc ll i 0 from rfl, hv]; refine hK _ _ _ ?_; clear hK K) | (with_reducible first | refine rN ?_ | refine sQ ?_ | refine tY hC hP ?_ | refine aY hC hM hP ?_ | refine kQ ?_ | refine lQ ?_ | refine eQ ?_ | refine bQ ?_ | refine cTa ?_ | refine cFa ?_) | simp only [qS, Nat.reduceEqDiff, ↓reduceIte]))
     refine rt1 ?_
     exact hr.one i hin hi.2 hok
   ·by_cases hok : ok1 (pc ll) i
    ·have hv : pc ll i 0 = 0 := by have := hok; unfold ok1 at this; rwa [if_neg h1] at this
     (repeat (first | ((with_reducible refine rC rfl fun K hK => ?_); simp only [go_sem, seval, ↓reduceIte, show (i : Int) < (n : Int) by omega, show ((i : Int) == 1) = false by rw [beq_eq_false_iff_ne]; omega, Aj ll i (by rw [hl.len]; exact hin), Ac, hl.len, Int.toNat_natCast, Int.natCast_nonneg, Int.le_refl, Int.toNat_zero, Aa _ _ hj, hrow, show (0 : Int) < ((n - i : Nat) : Int) by omega, show (ll.getD i []).getD 0 0 = pc ll i 0 from rfl, hv, show ((0 : Int) != 0) = false from rfl, wid ((i : Int) + 1) (by omega) (by omega)]; refine hK _ _ _ ?_; clear hK K) | (with_reducible first | refine rN ?_ | refine sQ ?_ | refine tY hC hP ?_ | refine aY hC hM hP ?_ | refine kQ ?_ | refine lQ ?_ | refine eQ ?_ | refine bQ ?_ | refine cTa ?_ | refine cFa ?_) | simp only [qS, Nat.reduceEqDiff, ↓reduceIte]))
     refine ⟨i + 1, ⟨by omega, fun i' hi' => ?_⟩, by omega, by simp [Sub, lk]⟩
     by_cases e : i' = i
     ·rw [e]; exact hok
     ·exact hi.2 i' (by omega)
    ·have hv : (pc ll i 0 != 0) = true := by
      have := hok; unfold ok1 at this; rw [if_neg h1] at this; simpa using this
     (repeat (first | ((with_reducible refine rC rfl fun K hK => ?_); simp only [go_sem, seval, ↓reduceIte, show (i : Int) < (n : Int) by omega, show ((i : Int) == 1) = false by rw [beq_eq_false_iff_ne]; omega, Aj ll i (by rw [hl.len]; exact hin), Ac, hl.len, Int.toNat_natCast, Int.natCast_nonneg, Int.le_refl, Int.toNat_zero, Aa _ _ hj, hrow, show (0 : Int) < ((n - i : Nat) : Int) by omega, show (ll.getD i []).getD 0 0 = pc ll i 0 from rfl, hv]; refine hK _ _ _ ?_; clear hK K) | (with_reducible first | refine rN ?_ | refine sQ ?_ | refine tY hC hP ?_ | refine aY hC hM hP ?_ | refine kQ ?_ | refine lQ ?_ | refine eQ ?_ | refine bQ ?_ | refine cTa ?_ | refine cFa ?_) | simp only [qS, Nat.reduceEqDiff, ↓reduceIte]))
     refine rt1 ?_
     exact hr.one i hin hi.2 hok
  ·have hA : ∀ i, i < n → ok1 (pc ll) i := fun i' h => hi.2 i' (by omega)
   (repeat (first | ((with_reducible refine rC rfl fun K hK => ?_); simp only [go_sem, seval, ↓reduceIte, show ¬ (i : Int) < (n : Int) by omega]; refine hK _ _ _ ?_; clear hK K) | (with_reducible first | refine rN ?_ | refine sQ ?_ | refine tY hC hP ?_ | refine aY hC hM hP ?_ | refine kQ ?_ | refine lQ ?_ | refine eQ ?_ | refine bQ ?_ | refine cTa ?_ | refine cFa ?_) | simp only [qS, Nat.reduceEqDiff, ↓reduceIte]))
   refine AWP.loop (fun i : Nat => [(7, ⟨0, .val (.int .i64 i)⟩), (3, ⟨0, .val (.int .i64 n)⟩), (4, ⟨0, .val (.sl false 27 (rowsF ll))⟩), (1, ⟨1, .own (.box 26 (.agg [.int .i64 m, .sl false 27 (rowsF ll)]))⟩)]) (fun i => i ≤ n ∧ ∀ i', i' < i → ∀ j, ok2 n (pc ll) i' j) (fun i => n - i) 0 ⟨Nat.zero_le _, fun i hi => absurd hi (Nat.not_lt_zero _)⟩ (fun i => rfl) ?_ (fun i hi => ?_)
   ·simp [Sub, lk]
   ·by_cases hin : i < n
    ·have hrow := hl.row i hin
     (repeat (first | ((with_reducible refine rC rfl fun K hK => ?_); simp only [go_sem, seval, ↓reduceIte, show (i : Int) < (n : Int) by omega, wid ((i : Int) + 1) (by omega) (by omega)]; refine hK _ _ _ ?_; clear hK K) | (with_reducible first | refine rN ?_ | refine sQ ?_ | refine tY hC hP ?_ | refine aY hC hM hP ?_ | refine kQ ?_ | refine lQ ?_ | refine eQ ?_ | refine bQ ?_ | refine cTa ?_ | refine cFa ?_) | simp only [qS, Nat.reduceEqDiff, ↓reduceIte]))
     refine AWP.loop (fun j : Nat => [(8, ⟨0, .val (.int .i64 j)⟩), (7, ⟨0, .val (.int .i64 i)⟩), (3, ⟨0, .val (.int .i64 n)⟩), (4, ⟨0, .val (.sl false 27 (rowsF ll))⟩), (1, ⟨1, .own (.box 26 (.agg [.int .i64 m, .sl false 27 (rowsF ll)]))⟩)]) (fun j => i < j ∧ j ≤ n + 1 ∧ ∀ j', j' < j → ok2 n (pc ll) i j') (fun j => n + 2 - j) (i + 1) ⟨by omega, by omega, fun j hj => Abi (by omega)⟩ (fun i => rfl) ?_ (fun j hj => ?_)
     ·simp [Sub, lk]
     ·have w1 := widK (i + j) (by omega)
      by_cases hij : i + j < n
      ·have hrow2 := hl.row j (by omega)
       have k1 : j < (ll.getD i []).length := by omega
       have k2 : i < (ll.getD j []).length := by omega
       by_cases hok : ok2 n (pc ll) i j
       ·have hv : (pc ll i j != pc ll j i) = false := by simpa using hok hj.1 hij
        (repeat (first | ((with_reducible refine rC rfl fun K hK => ?_); simp only [go_sem, seval, ↓reduceIte, ← Int.natCast_add, w1, show ((i + j : Nat) : Int) < (n : Int) by omega, Aj ll i (by rw [hl.len]; omega), Aj ll j (by rw [hl.len]; omega), Ac, hl.len, show (i : Int) < (n : Int) by omega, show (j : Int) < (n : Int) by omega, Int.toNat_natCast, Int.natCast_nonneg, Aa _ _ k1, Aa _ _ k2, hrow, hrow2, show (j : Int) < ((n - i : Nat) : Int) by omega, show (i : Int) < ((n - j : Nat) : Int) by omega, show (ll.getD i []).getD j 0 = pc ll i j from rfl, show (ll.getD j []).getD i 0 = pc ll j i from rfl, hv, wid ((j : Int) + 1) (by omega) (by omega)]; refine hK _ _ _ ?_; clear hK K) | (with_reducible first | refine rN ?_ | refine sQ ?_ | refine tY hC hP ?_ | refine aY hC hM hP ?_ | refine kQ ?_ | refine lQ ?_ | refine eQ ?_ | refine bQ ?_ | refine cTa ?_ | refine cFa ?_) | simp only [qS, Nat.reduceEqDiff, ↓reduceIte]))
        refine ⟨j + 1, ⟨by omega, by omega, fun j' hj' => ?_⟩, by omega, by simp [Sub, lk]⟩
        by_cases e : j' = j
        ·rw [e]; exact hok
        ·exact hj.2.2 j' (by omega)
       ·have hv : (pc ll i j != pc ll j i) = true := by
         have h5 : ¬ pc ll i j = pc ll j i := fun h6 => hok fun _ _ => h6
         simpa using h5
        (repeat (first | ((with_reducible refine rC rfl fun K hK => ?_); simp only [go_sem, seval, ↓reduceIte, ← Int.natCast_add, w1, show ((i + j : Nat) : Int) < (n : Int) by omega, Aj ll i (by rw [hl.len]; omega), Aj ll j (by rw [hl.len]; omega), Ac, hl.len, show (i : Int) < (n : Int) by omega, show (j : Int) < (n : Int) by omega, Int.toNat_natCast, Int.natCast_nonneg, Aa _ _ k1, Aa _ _ k2, hrow, hrow2, show (j : Int) < ((n - i : Nat) : Int) by omega, show (i : Int) < ((n - j : Nat) : Int) by omega, show (ll.getD i []).getD j 0 = pc ll i j from rfl, show (ll.getD j []).getD i 0 = pc ll j i from rfl, hv]; refine hK _ _ _ ?_; clear hK K) | (with_reducible first | refine rN ?_ | refine sQ ?_ | refine tY hC hP ?_ | refine aY hC hM hP ?_ | refine kQ ?_ | refine lQ ?_ | refine eQ ?_ | refine bQ ?_ | refine cTa ?_ | refine cFa ?_) | simp only [qS, Nat.reduceEqDiff, ↓reduceIte]))
        refine rt1 ?_
        exact hr.two hA i j hi.2 hj.2.2 hok
      ·(repeat (first | ((with_reducible refine rC rfl fun K hK => ?_); simp only [go_sem, seval, ↓reduceIte, ← Int.natCast_add, w1, show ¬ ((i + j : Nat) : Int) < (n : Int) by omega, wid ((i : Int) + 1) (by omega) (by omega)]; refine hK _ _ _ ?_; clear hK K) | (with_reducible first | refine rN ?_ | refine sQ ?_ | refine tY hC hP ?_ | refine aY hC hM hP ?_ | refine kQ ?_ | refine lQ ?_ | refine eQ ?_ | refine bQ ?_ | refine cTa ?_ | refine cFa ?_) | simp only [qS, Nat.reduceEqDiff, ↓reduceIte]))
       refine ⟨i + 1, ⟨by omega, fun i' hi' j' => ?_⟩, by omega, by simp [Sub, lk]⟩
       by_cases e : i' = i
       ·rw [e]
        by_cases hjj : j' < j
        ·exact hj.2.2 j' hjj
        ·exact O3 (by omega)
       ·exact hi.2 i' (by omega) j'
    ·have hB : ∀ i j, ok2 n (pc ll) i j := fun i' j => by
      by_cases h5 : i' < i
      ·exact hi.2 i' h5 j
      ·exact O3 (by omega)
     (repeat (first | ((with_reducible refine rC rfl fun K hK => ?_); simp only [go_sem, seval, ↓reduceIte, show ¬ (i : Int) < (n : Int) by omega]; refine hK _ _ _ ?_; clear hK K) | (with_reducible first | refine rN ?_ | refine sQ ?_ | refine tY hC hP ?_ | refine aY hC hM hP ?_ | refine kQ ?_ | refine lQ ?_ | refine eQ ?_ | refine bQ ?_ | refine cTa ?_ | refine cFa ?_) | simp only [qS, Nat.reduceEqDiff, ↓reduceIte]))
     refine AWP.loop (fun w : Nat × Nat => [(11, ⟨0, .val (.int .i64 w.1)⟩), (9, ⟨w.2, .own (.sl true 24 (tabsO (seqT w.1 (lfL m n ll))))⟩), (10, ⟨w.2, .own (.sl true 24 (tabsO (seqT w.1 (rtL m n ll))))⟩), (3, ⟨0, .val (.int .i64 n)⟩), (4, ⟨0, .val (.sl false 27 (rowsF ll))⟩), (1, ⟨1, .own (.box 26 (.agg [.int .i64 m, .sl false 27 (rowsF ll)]))⟩)]) (fun w => w.1 ≤ n) (fun w => n - w.1) (0, 1) (Nat.zero_le _) (fun i => rfl) ?_ (fun w hw => ?_)
     ·simp [Sub, lk, tabsO, seqT]
     ·obtain ⟨c, v⟩ := w
      simp only at hw ⊢
      by_cases hcn : c < n
      ·have hrow := hl.row c hcn
       have hC1 := Nl m ll n c hl (by omega) hn2
       have hA1 := Cu m (tab (n - c) (fun i => pc ll i c)) ll n hm hm2 hl (fun x hx => by obtain ⟨i, _, rfl⟩ := Cb.1 hx; exact hl.num i c) (by rw [Ad]; omega) hn hn2
       rw [Ad] at hA1
       have hA2 := Cu m (ll.getD c []) ll n hm hm2 hl (hl.rowNum c) (by omega) hn hn2
       rw [hrow] at hA2
       have s1 := Qt c (lfL m n ll)
       have s2 := Qt c (rtL m n ll)
       rw [show lfL m n ll c = aftL m n (pc ll) (tab (n - c) (fun i => pc ll i c)) (n - c) from rfl] at s1
       rw [show rtL m n ll c = aftL m n (pc ll) (ll.getD c []) (n - c) from rfl] at s2
       (repeat (first | ((with_reducible refine rC rfl fun K hK => ?_); simp only [go_sem, seval, ↓reduceIte, show (c : Int) < (n : Int) by omega, Ir, Fs, Ex, Zp, s1, s2, show c + 1 ≤ 1099511627776 by omega, show (c + 1) * 24 ≤ 140737488355328 by omega, Aj ll c (by rw [hl.len]; omega), Ac, hl.len, Int.toNat_natCast, Int.natCast_nonneg, wid ((c : Int) + 1) (by omega) (by omega)]; (first | refine hK _ _ _ ?_ | refine ⟨_, hC1, hK _ _ _ ?_⟩ | refine ⟨_, hA1, hK _ _ _ ?_⟩ | refine ⟨_, hA2, hK _ _ _ ?_⟩); clear hK K) | (with_reducible first | refine rN ?_ | refine sQ ?_ | refine tY hC hP ?_ | refine aY hC hM hP ?_ | refine kQ ?_ | refine lQ ?_ | refine eQ ?_ | refine bQ ?_ | refine cTa ?_ | refine cFa ?_) | simp only [qS, Nat.reduceEqDiff, ↓reduceIte]))
       exact ⟨(c + 1, v + 1), by simp only; omega, by simp only; omega, by simp [Sub, lk]⟩
      ·have hcn2 : c = n := by omega
       subst hcn2
       (repeat (first | ((with_reducible refine rC rfl fun K hK => ?_); simp only [go_sem, seval, ↓reduceIte, show ¬ (c : Int) < (c : Int) by omega]; refine hK _ _ _ ?_; clear hK K) | (with_reducible first | refine rN ?_ | refine sQ ?_ | refine tY hC hP ?_ | refine aY hC hM hP ?_ | refine kQ ?_ | refine lQ ?_ | refine eQ ?_ | refine bQ ?_ | refine cTa ?_ | refine cFa ?_) | simp only [qS, Nat.reduceEqDiff, ↓reduceIte]))
       refine AWP.loop (fun a : Nat => [(12, ⟨0, .val (.int .i64 a)⟩), (9, ⟨v, .own (.sl true 24 (tabsO (seqT c (lfL m c ll))))⟩), (10, ⟨v, .own (.sl true 24 (tabsO (seqT c (rtL m c ll))))⟩), (3, ⟨0, .val (.int .i64 c)⟩)]) (fun a => a ≤ c ∧ ∀ a', a' < a → ∀ b k, ok3 m c (pc ll) a' b k) (fun a => c - a) 0 ⟨Nat.zero_le _, fun i hi => absurd hi (Nat.not_lt_zero _)⟩ (fun i => rfl) ?_ (fun a ha => ?_)
       ·simp [Sub, lk]
       ·by_cases hac : a < c
        ·(repeat (first | ((with_reducible refine rC rfl fun K hK => ?_); simp only [go_sem, seval, ↓reduceIte, show (a : Int) < (c : Int) by omega]; refine hK _ _ _ ?_; clear hK K) | (with_reducible first | refine rN ?_ | refine sQ ?_ | refine tY hC hP ?_ | refine aY hC hM hP ?_ | refine kQ ?_ | refine lQ ?_ | refine eQ ?_ | refine bQ ?_ | refine cTa ?_ | refine cFa ?_) | simp only [qS, Nat.reduceEqDiff, ↓reduceIte]))
         refine AWP.loop (fun b : Nat => [(13, ⟨0, .val (.int .i64 b)⟩), (12, ⟨0, .val (.int .i64 a)⟩), (9, ⟨v, .own (.sl true 24 (tabsO (seqT c (lfL m c ll))))⟩), (10, ⟨v, .own (.sl true 24 (tabsO (seqT c (rtL m c ll))))⟩), (3, ⟨0, .val (.int .i64 c)⟩)]) (fun b => a + b ≤ c ∧ ∀ b', b' < b → ∀ k, ok3 m c (pc ll) a b' k) (fun b => c - b) 0 ⟨by omega, fun i hi => absurd hi (Nat.not_lt_zero _)⟩ (fun i => rfl) ?_ (fun b hb => ?_)
         ·simp [Sub, lk]
         ·have w1 := widK (a + b) (by omega)
          by_cases hbc : a + b < c
          ·(repeat (first | ((with_reducible refine rC rfl fun K hK => ?_); simp only [go_sem, seval, ↓reduceIte, ← Int.natCast_add, w1, show ((a + b : Nat) : Int) < (c : Int) by omega]; refine hK _ _ _ ?_; clear hK K) | (with_reducible first | refine rN ?_ | refine sQ ?_ | refine tY hC hP ?_ | refine aY hC hM hP ?_ | refine kQ ?_ | refine lQ ?_ | refine eQ ?_ | refine bQ ?_ | refine cTa ?_ | refine cFa ?_) | simp only [qS, Nat.reduceEqDiff, ↓reduceIte]))
           refine AWP.loop (fun k : Nat => [(14, ⟨0, .val (.int .i64 k)⟩), (13, ⟨0, .val (.int .i64 b)⟩), (12, ⟨0, .val (.int .i64 a)⟩), (9, ⟨v, .own (.sl true 24 (tabsO (seqT c (lfL m c ll))))⟩), (10, ⟨v, .own (.sl true 24 (tabsO (seqT c (rtL m c ll))))⟩), (3, ⟨0, .val (.int .i64 c)⟩)]) (fun k => a + b + k ≤ c ∧ ∀ k', k' < k → ok3 m c (pc ll) a b k') (fun k => c - k) 0 ⟨by omega, fun i hi => absurd hi (Nat.not_lt_zero _)⟩ (fun i => rfl) ?_ (fun k hk => ?_)
           ·simp [Sub, lk]
           ·have w2 := widK (a + b + k) (by omega)
            by_cases hkc : a + b + k < c
            ·have x1 : k < (seqT c (lfL m c ll)).length := by rw [Ex]; omega
             have x2 : a < (seqT c (rtL m c ll)).length := by rw [Ex]; omega
             have p1 : Pl m c (lfL m c ll k) := Ee hm c _ _ _
             have p2 : Pl m c (rtL m c ll a) := Ee hm c _ _ _
             have y1 : a < (lfL m c ll k).length := by rw [p1.len]; omega
             have y2 : b < (rtL m c ll a).length := by rw [p2.len]; omega
             have r1 := p1.row a (by omega)
             have r2 := p2.row b (by omega)
             have z1 : b < ((lfL m c ll k).getD a []).length := by omega
             have z2 : k < ((rtL m c ll a).getD b []).length := by omega
             have v1 := Ai1 hm (ll := ll) (c := k) (show a + b < c by omega)
             have v2 := Ais hm hl (show a < c by omega) (show b + k < c by omega)
             by_cases hok : ok3 m c (pc ll) a b k
             ·have hv : (pc (lfL m c ll k) a b != pc (rtL m c ll a) b k) = false := by rw [v1, v2]; simpa using hok hkc
              (repeat (first | ((with_reducible refine rC rfl fun K hK => ?_); simp only [go_sem, seval, ↓reduceIte, ← Int.natCast_add, w1, w2, show ((a + b + k : Nat) : Int) < (c : Int) by omega, Fs, Ex, Kb _ _ x1, Kb _ _ x2, Gb _ _ (Nat.le_of_lt x1), Gb _ _ (Nat.le_of_lt x2), H4 (show k < c by omega), H4 (show a < c by omega), show (k : Int) < (c : Int) by omega, show (a : Int) < (c : Int) by omega, show (b : Int) < (c : Int) by omega, Int.toNat_natCast, Int.natCast_nonneg, Nat.mul_one, Au _ _ y1, Au _ _ y2, An _ _ (Nat.le_of_lt y1), An _ _ (Nat.le_of_lt y2), Ai, p1.len, p2.len, Ae _ _ z1, Ae _ _ z2, Ab _ _ (Nat.le_of_lt z1), Ab _ _ (Nat.le_of_lt z2), r1, r2, show (b : Int) < ((c - a : Nat) : Int) by omega, show (k : Int) < ((c - b : Nat) : Int) by omega, show ((lfL m c ll k).getD a []).getD b 0 = pc (lfL m c ll k) a b from rfl, show ((rtL m c ll a).getD b []).getD k 0 = pc (rtL m c ll a) b k from rfl, hv, wid ((k : Int) + 1) (by omega) (by omega)]; refine hK _ _ _ ?_; clear hK K) | (with_reducible first | refine rN ?_ | refine sQ ?_ | refine tY hC hP ?_ | refine aY hC hM hP ?_ | refine kQ ?_ | refine lQ ?_ | refine eQ ?_ | refine bQ ?_ | refine cTa ?_ | refine cFa ?_) | simp only [qS, Nat.reduceEqDiff, ↓reduceIte]))
              refine ⟨k + 1, ⟨by omega, fun k' hk' => ?_⟩, by omega, by simp [Sub, lk]⟩
              by_cases e : k' = k
              ·rw [e]; exact hok
              ·exact hk.2 k' (by omega)
             ·have hv : (pc (lfL m c ll k) a b != pc (rtL m c ll a) b k) = true := by
               have h5 : ¬ lfS m c (pc ll) a b k % m = rtS m c (pc ll) a b k % m := fun h6 => hok fun _ => h6
               rw [v1, v2]; simpa using h5
              (repeat (first | ((with_reducible refine rC rfl fun K hK => ?_); simp only [go_sem, seval, ↓reduceIte, ← Int.natCast_add, w1, w2, show ((a + b + k : Nat) : Int) < (c : Int) by omega, Fs, Ex, Kb _ _ x1, Kb _ _ x2, Gb _ _ (Nat.le_of_lt x1), Gb _ _ (Nat.le_of_lt x2), H4 (show k < c by omega), H4 (show a < c by omega), show (k : Int) < (c : Int) by omega, show (a : Int) < (c : Int) by omega, show (b : Int) < (c : Int) by omega, Int.toNat_natCast, Int.natCast_nonneg, Nat.mul_one, Au _ _ y1, Au _ _ y2, An _ _ (Nat.le_of_lt y1), An _ _ (Nat.le_of_lt y2), Ai, p1.len, p2.len, Ae _ _ z1, Ae _ _ z2, Ab _ _ (Nat.le_of_lt z1), Ab _ _ (Nat.le_of_lt z2), r1, r2, show (b : Int) < ((c - a : Nat) : Int) by omega, show (k : Int) < ((c - b : Nat) : Int) by omega, show ((lfL m c ll k).getD a []).getD b 0 = pc (lfL m c ll k) a b from rfl, show ((rtL m c ll a).getD b []).getD k 0 = pc (rtL m c ll a) b k from rfl, hv]; refine hK _ _ _ ?_; clear hK K) | (with_reducible first | refine rN ?_ | refine sQ ?_ | refine tY hC hP ?_ | refine aY hC hM hP ?_ | refine kQ ?_ | refine lQ ?_ | refine eQ ?_ | refine bQ ?_ | refine cTa ?_ | refine cFa ?_) | simp only [qS, Nat.reduceEqDiff, ↓reduceIte]))
              refine rt1 ?_
              exact hr.three hA hB a b k ha.2 hb.2 hk.2 hok
            ·(repeat (first | ((with_reducible refine rC rfl fun K hK => ?_); simp only [go_sem, seval, ↓reduceIte, ← Int.natCast_add, w1, w2, show ¬ ((a + b + k : Nat) : Int) < (c : Int) by omega, wid ((b : Int) + 1) (by omega) (by omega)]; refine hK _ _ _ ?_; clear hK K) | (with_reducible first | refine rN ?_ | refine sQ ?_ | refine tY hC hP ?_ | refine aY hC hM hP ?_ | refine kQ ?_ | refine lQ ?_ | refine eQ ?_ | refine bQ ?_ | refine cTa ?_ | refine cFa ?_) | simp only [qS, Nat.reduceEqDiff, ↓reduceIte]))
             refine ⟨b + 1, ⟨by omega, fun b' hb' k' => ?_⟩, by omega, by simp [Sub, lk]⟩
             by_cases e : b' = b
             ·rw [e]
              by_cases hkk : k' < k
              ·exact hk.2 k' hkk
              ·exact I9 (by omega)
             ·exact hb.2 b' (by omega) k'
          ·(repeat (first | ((with_reducible refine rC rfl fun K hK => ?_); simp only [go_sem, seval, ↓reduceIte, ← Int.natCast_add, w1, show ¬ ((a + b : Nat) : Int) < (c : Int) by omega, wid ((a : Int) + 1) (by omega) (by omega)]; refine hK _ _ _ ?_; clear hK K) | (with_reducible first | refine rN ?_ | refine sQ ?_ | refine tY hC hP ?_ | refine aY hC hM hP ?_ | refine kQ ?_ | refine lQ ?_ | refine eQ ?_ | refine bQ ?_ | refine cTa ?_ | refine cFa ?_) | simp only [qS, Nat.reduceEqDiff, ↓reduceIte]))
           refine ⟨a + 1, ⟨by omega, fun a' ha' b' k' => ?_⟩, by omega, by simp [Sub, lk]⟩
           by_cases e : a' = a
           ·rw [e]
            by_cases hbb : b' < b
            ·exact hb.2 b' hbb k'
            ·exact I9 (by omega)
           ·exact ha.2 a' (by omega) b' k'
        ·(repeat (first | ((with_reducible refine rC rfl fun K hK => ?_); simp only [go_sem, seval, ↓reduceIte, show ¬ (a : Int) < (c : Int) by omega]; refine hK _ _ _ ?_; clear hK K) | (with_reducible first | refine rN ?_ | refine sQ ?_ | refine tY hC hP ?_ | refine aY hC hM hP ?_ | refine kQ ?_ | refine lQ ?_ | refine eQ ?_ | refine bQ ?_ | refine cTa ?_ | refine cFa ?_) | simp only [qS, Nat.reduceEqDiff, ↓reduceIte]))
         refine rt1 ?_
         exact hr.none ⟨hA, hB, fun a' b' k' => by
          by_cases h5 : a' < a
          ·exact ha.2 a' h5 b' k'
          ·exact I9 (by omega)⟩
end Go.Proofs.YtapdekacpecgiaaGreat
