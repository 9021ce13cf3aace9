import Derived.Test.YtapdekacpecgiaaGreatKa
import Derived.Test.YtapdekacpecgiaaGreatLd
import Derived.Test.YtapdekacpecgiaaGreatLcc
import Derived.Test.YtapdekacpecgiaaGreatTr
namespace Go.Proofs.YtapdekacpecgiaaGreat
open Go.RowKit
set_option linter.unusedSimpArgs false
set_option linter.unusedVariables false
set_option linter.unusedSectionVars false
set_option maxRecDepth 20000
set_option maxHeartbeats 1000000
theorem widK (q : Nat) (h : q ≤ 9000000000000000000) : IntKind.i64.wrap (q : Int) = (q : Int) := wid _ (by omega) (by omega)
theorem E1 (a : List (List Int)) (l : List Int) : rowsO a ++ [.sl true 2 (intL l)] = rowsO (a ++ [l]) := by simp [rowsO]
theorem Au (ll : List (List Int)) (i : Nat) (h : i < ll.length) : (rowsO ll)[i]? = some (.sl true 2 (intL (ll.getD i []))) := by
 simp [rowsO, List.getD_eq_getElem?_getD, h]
theorem An (ll : List (List Int)) (i : Nat) (h : i ≤ ll.length) : T.sizeL ((rowsO ll).take i) = i := by
 rw [A9 (n := 1) (fun t ht => by
  have ht := List.mem_of_mem_take ht
  simp only [rowsO, List.mem_map] at ht
  obtain ⟨x, _, rfl⟩ := ht
  rfl)]
 simp [Ai]; omega
theorem Bq (ll : List (List Int)) (i j : Nat) (v : Int) (h : i < ll.length) : (rowsO ll).modify i ((T.int .i64 v).set [j]) = rowsO (ll.set i ((ll.getD i []).set j v)) := by
 apply List.ext_getElem?
 intro a
 rw [List.getElem?_modify]
 by_cases e : i = a
 ·subst e
  rw [Au _ _ h, Au _ _ (by rw [List.length_set]; exact h)]
  have e2 : (ll.set i ((ll.getD i []).set j v)).getD i [] = (ll.getD i []).set j v := by
   rw [List.getD_eq_getElem?_getD, List.getElem?_set_self h]; rfl
  simp only [if_true, Option.map_eq_map, Option.map_some, T.set]
  rw [e2, Az]
 ·simp only [rowsO, if_neg e, List.getElem?_map, List.getElem?_set_ne e, Option.map_eq_map]
  cases ll[a]? <;> rfl
theorem B2 (d : Nat) (hd : d ≤ 1000) : AFn Tryz.prog 176 [.int .i64 d] (.sl true 27 (rowsO (tab2 (d + 1) (fun _ _ => 0)))) := by
 refine fO Tryz.func176 Tryz.ntmps176 (by rw [Tryz.results176]) fun C hP hM hC => ?_
 (repeat (first | ((with_reducible refine rC rfl fun K hK => ?_); simp only [go_sem, seval, ↓reduceIte]; refine hK _ _ _ ?_; clear hK K) | (with_reducible first | refine rN ?_ | refine sQ ?_ | refine tY hC hP ?_ | refine aY hC hM hP ?_ | refine kQ ?_ | refine lQ ?_ | refine eQ ?_ | refine bQ ?_ | refine cTa ?_ | refine cFa ?_) | simp only [qS, Nat.reduceEqDiff, ↓reduceIte]))
 refine AWP.loop (fun w : Nat × Nat => [(4, ⟨0, .val (.int .i64 w.1)⟩), (3, ⟨w.2, .own (.sl true 27 (rowsO (tabR (d + 1) w.1 (fun _ _ => 0))))⟩), (0, ⟨0, .val (.int .i64 d)⟩)]) (fun w => w.1 ≤ d + 1) (fun w => d + 1 - w.1) (0, 1) (Nat.zero_le _) (fun i => rfl) ?_ (fun w hw => ?_)
 ·simp [Sub, lk, Lg, rowsO]
 ·obtain ⟨i, v⟩ := w
  simp only at hw ⊢
  by_cases hi : i ≤ d
  ·have u1 : IntKind.i64.wrap ((d : Int) - (i : Int)) = ((d - i : Nat) : Int) := by rw [wid _ (by omega) (by omega)]; omega
   have u2 : IntKind.i64.wrap (((d - i : Nat) : Int) + 1) = ((d + 1 - i : Nat) : Int) := by rw [wid _ (by omega) (by omega)]; omega
   have hs := Gm (d + 1) i (fun _ _ => 0)
   (repeat (first | ((with_reducible refine rC rfl fun K hK => ?_); simp only [go_sem, seval, ↓reduceIte, show (i : Int) ≤ (d : Int) by omega, u1, u2, Int.toNat_natCast, Int.natCast_nonneg, show ((d + 1 - i : Nat) : Int) ≤ 1099511627776 by omega, Be, C6, E2, E1, hs, show i + 1 ≤ 1099511627776 by omega, show (i + 1) * 24 ≤ 140737488355328 by omega, wid ((i : Int) + 1) (by omega) (by omega)]; refine hK _ _ _ ?_; clear hK K) | (with_reducible first | refine rN ?_ | refine sQ ?_ | refine tY hC hP ?_ | refine aY hC hM hP ?_ | refine kQ ?_ | refine lQ ?_ | refine eQ ?_ | refine bQ ?_ | refine cTa ?_ | refine cFa ?_) | simp only [qS, Nat.reduceEqDiff, ↓reduceIte]))
   exact ⟨(i + 1, v + 1), by simp only; omega, by simp only; omega, by simp [Sub, lk]⟩
  ·(repeat (first | ((with_reducible refine rC rfl fun K hK => ?_); simp only [go_sem, seval, ↓reduceIte, show ¬ (i : Int) ≤ (d : Int) by omega]; refine hK _ _ _ ?_; clear hK K) | (with_reducible first | refine rN ?_ | refine sQ ?_ | refine tY hC hP ?_ | refine aY hC hM hP ?_ | refine kQ ?_ | refine lQ ?_ | refine eQ ?_ | refine bQ ?_ | refine cTa ?_ | refine cFa ?_) | simp only [qS, Nat.reduceEqDiff, ↓reduceIte]))
   refine rt1 ?_
   rw [show i = d + 1 by omega]; rfl
theorem A5 (m : Int) (ll : List (List Int)) (hl : ll.length ≤ 1099511627776) : AFn Tryz.prog 99 [.agg [.int .i64 m, .sl false 27 (rowsF ll)]] (.int .i64 ((ll.length : Int) - 1)) := by
 refine fO Tryz.func99 Tryz.ntmps99 (by rw [Tryz.results99]) fun C hP hM hC => ?_
 (repeat (first | ((with_reducible refine rC rfl fun K hK => ?_); simp only [go_sem, seval, ↓reduceIte, Ac, wid ((ll.length : Int) - 1) (by omega) (by omega)]; refine hK _ _ _ ?_; clear hK K) | (with_reducible first | refine rN ?_ | refine sQ ?_ | refine tY hC hP ?_ | refine aY hC hM hP ?_ | refine kQ ?_ | refine lQ ?_ | refine eQ ?_ | refine bQ ?_ | refine cTa ?_ | refine cFa ?_) | simp only [qS, Nat.reduceEqDiff, ↓reduceIte]))
 refine rt1 ?_
 rfl
theorem C7 (m : Int) (d : Nat) (hd : d ≤ 1000) : AFn Tryz.prog 186 [.int .i64 m, .int .i64 d] (.agg [.int .i64 m, .sl true 27 (rowsO (tab2 (d + 1) (fun _ _ => 0)))]) := by
 refine fO Tryz.func186 Tryz.ntmps186 (by rw [Tryz.results186]) fun C hP hM hC => ?_
 (repeat (first | ((with_reducible refine rC rfl fun K hK => ?_); simp only [go_sem, seval, ↓reduceIte, wid ((d : Int) + 1) (by omega) (by omega)]; refine hK _ _ _ ?_; clear hK K) | (with_reducible first | refine rN ?_ | refine sQ ?_ | refine tY hC hP ?_ | refine aY hC hM hP ?_ | refine kQ ?_ | refine lQ ?_ | refine eQ ?_ | refine bQ ?_ | refine cTa ?_ | refine cFa ?_) | simp only [qS, Nat.reduceEqDiff, ↓reduceIte]))
 refine AWP.loop (fun w : Nat × Nat => match w with
  | (0, v) => [(11, ⟨0, .val (.int .i64 0)⟩), (10, ⟨0, .val (.int .i64 ((d : Int) + 1))⟩), (5, ⟨v, .own (.box 26 (.agg [.int .i64 m, .nil]))⟩), (1, ⟨0, .val (.int .i64 d)⟩), (4, ⟨1, .own (.box 26 (.agg [.int .i64 0, .nil]))⟩)]
  | (i + 1, v) => [(11, ⟨0, .val (.int .i64 (i + 1 : Nat))⟩), (10, ⟨0, .val (.int .i64 ((d : Int) + 1))⟩), (5, ⟨v, .own (.box 26 (.agg [.int .i64 m, .sl true 27 (rowsO (tabR (d + 1) (i + 1) (fun _ _ => 0)))]))⟩), (1, ⟨0, .val (.int .i64 d)⟩), (4, ⟨1, .own (.box 26 (.agg [.int .i64 0, .nil]))⟩)]) (fun w => w.1 ≤ d + 1) (fun w => d + 1 - w.1) (0, 2) (Nat.zero_le _) (fun i => by obtain ⟨i, v⟩ := i; cases i <;> rfl) ?_ (fun w hw => ?_)
 ·simp [Sub, lk]
 ·obtain ⟨i, v⟩ := w
  simp only at hw
  have u1 : IntKind.i64.wrap ((d : Int) + 1) = ((d + 1 : Nat) : Int) := by rw [wid _ (by omega) (by omega)]; omega
  by_cases hi : i ≤ d
  ·have u2 : IntKind.i64.wrap (((d + 1 : Nat) : Int) - (i : Int)) = ((d + 1 - i : Nat) : Int) := by rw [wid _ (by omega) (by omega)]; omega
   have hs := Gm (d + 1) i (fun _ _ => 0)
   cases i with
   | zero =>
    have u3 : IntKind.i64.wrap (((d + 1 : Nat) : Int) - 0) = ((d + 1 : Nat) : Int) := by rw [wid _ (by omega) (by omega)]; omega
    simp only
    (repeat (first | ((with_reducible refine rC rfl fun K hK => ?_); simp only [go_sem, seval, ↓reduceIte, show (0 : Int) < (d : Int) + 1 by omega, u1, u3, Int.toNat_natCast, Int.natCast_nonneg, show ((d + 1 : Nat) : Int) ≤ 1099511627776 by omega, Be, C6]; refine hK _ _ _ ?_; clear hK K) | (with_reducible first | refine rN ?_ | refine sQ ?_ | refine tY hC hP ?_ | refine aY hC hM hP ?_ | refine kQ ?_ | refine lQ ?_ | refine eQ ?_ | refine bQ ?_ | refine cTa ?_ | refine cFa ?_) | simp only [qS, Nat.reduceEqDiff, ↓reduceIte]))
    exact ⟨(1, v + 1), by simp only; omega, by simp only; omega, by simp [Sub, lk, tabR, rowsO, show IntKind.i64.wrap 1 = 1 by decide]⟩
   | succ i =>
    simp only
    have u2 : IntKind.i64.wrap (((d + 1 : Nat) : Int) - ((i + 1 : Nat) : Int)) = ((d - i : Nat) : Int) := by rw [wid _ (by omega) (by omega)]; omega
    have hs : tabR (d + 1) (i + 1) (fun _ _ => 0) ++ [tab (d - i) (fun _ => 0)] = tabR (d + 1) (i + 1 + 1) (fun _ _ => 0) := by
     have := Gm (d + 1) (i + 1) (fun _ _ => 0)
     rwa [show d + 1 - (i + 1) = d - i by omega] at this
    (repeat (first | ((with_reducible refine rC rfl fun K hK => ?_); simp only [go_sem, seval, ↓reduceIte, show ((i + 1 : Nat) : Int) < (d : Int) + 1 by omega, u1, u2, Int.toNat_natCast, Int.natCast_nonneg, show ((d - i : Nat) : Int) ≤ 1099511627776 by omega, Be, C6, E2, E1, hs, show i + 1 + 1 ≤ 1099511627776 by omega, show (i + 1 + 1) * 24 ≤ 140737488355328 by omega, wid (((i + 1 : Nat) : Int) + 1) (by omega) (by omega)]; refine hK _ _ _ ?_; clear hK K) | (with_reducible first | refine rN ?_ | refine sQ ?_ | refine tY hC hP ?_ | refine aY hC hM hP ?_ | refine kQ ?_ | refine lQ ?_ | refine eQ ?_ | refine bQ ?_ | refine cTa ?_ | refine cFa ?_) | simp only [qS, Nat.reduceEqDiff, ↓reduceIte]))
    exact ⟨(i + 1 + 1, v + 1), by simp only; omega, by simp only; omega, by simp [Sub, lk]⟩
  ·have e : i = d + 1 := by omega
   subst e
   simp only
   (repeat (first | ((with_reducible refine rC rfl fun K hK => ?_); simp only [go_sem, seval, ↓reduceIte, show ¬ ((d + 1 : Nat) : Int) < (d : Int) + 1 by omega]; refine hK _ _ _ ?_; clear hK K) | (with_reducible first | refine rN ?_ | refine sQ ?_ | refine tY hC hP ?_ | refine aY hC hM hP ?_ | refine kQ ?_ | refine lQ ?_ | refine eQ ?_ | refine bQ ?_ | refine cTa ?_ | refine cFa ?_) | simp only [qS, Nat.reduceEqDiff, ↓reduceIte]))
   refine rt1 ?_
   rfl
end Go.Proofs.YtapdekacpecgiaaGreat
