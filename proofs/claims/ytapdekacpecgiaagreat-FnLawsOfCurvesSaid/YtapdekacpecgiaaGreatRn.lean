import Derived.Test.YtapdekacpecgiaaGreatKb
namespace Go.Proofs.YtapdekacpecgiaaGreat
open Go.RowKit
set_option linter.unusedSimpArgs false
set_option linter.unusedVariables false
set_option linter.unusedSectionVars false
set_option maxRecDepth 20000
set_option maxHeartbeats 1000000
theorem Im (l : List Int) (hl : l.length ≤ 1000000000) : AFn Tryz.prog 100 [.sl false 2 (intL l)] (.sl true 2 (intL l)) := by
 refine fO Tryz.func100 Tryz.ntmps100 (by rw [Tryz.results100]) fun C hP hM hC => ?_
 (repeat (first | ((with_reducible refine rC rfl fun K hK => ?_); simp only [go_sem, seval, ↓reduceIte, X2, Nat.zero_add, List.length_nil, show l.length ≤ 1099511627776 by omega, show l.length * 8 ≤ 140737488355328 by omega]; refine hK _ _ _ ?_; clear hK K) | (with_reducible first | refine rN ?_ | refine sQ ?_ | refine tY hC hP ?_ | refine aY hC hM hP ?_ | refine kQ ?_ | refine lQ ?_ | refine eQ ?_ | refine bQ ?_ | refine cTa ?_ | refine cFa ?_) | simp only [qS, Nat.reduceEqDiff, ↓reduceIte]))
 refine rt1 ?_
 rfl
def eqB (la lb : List Int) : Bool := decide (la = lb)
theorem Afr {la lb : List Int} (h : la.length = lb.length) (h2 : ∀ i, i < la.length → la.getD i 0 = lb.getD i 0) : la = lb := by
 apply List.ext_getElem h
 intro i g1 g2
 have := h2 i g1
 rw [List.getD_eq_getElem?_getD, List.getD_eq_getElem?_getD, List.getElem?_eq_getElem g1, List.getElem?_eq_getElem g2] at this
 exact this
theorem Gu (la lb : List Int) (h : la.length = lb.length) (hl : la.length ≤ 1000000000) : AFn Tryz.prog 249 [.sl false 2 (intL la), .sl false 2 (intL lb)] (.bool (eqB la lb)) := by
 refine fO Tryz.func249 Tryz.ntmps249 (by rw [Tryz.results249]) fun C hP hM hC => ?_
 (repeat (first | ((with_reducible refine rC rfl fun K hK => ?_); simp only [go_sem, seval, ↓reduceIte, show ((la.length : Int) != (lb.length : Int)) = false by rw [h]; simp]; refine hK _ _ _ ?_; clear hK K) | (with_reducible first | refine rN ?_ | refine sQ ?_ | refine tY hC hP ?_ | refine aY hC hM hP ?_ | refine kQ ?_ | refine lQ ?_ | refine eQ ?_ | refine bQ ?_ | refine cTa ?_ | refine cFa ?_) | simp only [qS, Nat.reduceEqDiff, ↓reduceIte]))
 refine AWP.loop (fun i : Nat => [(13, ⟨0, .val (.int .i64 i)⟩), (12, ⟨0, .val (.int .i64 la.length)⟩), (0, ⟨0, .val (.sl false 2 (intL la))⟩), (1, ⟨0, .val (.sl false 2 (intL lb))⟩)]) (fun i => i ≤ la.length ∧ ∀ j, j < i → la.getD j 0 = lb.getD j 0) (fun i => la.length - i) 0 ⟨Nat.zero_le _, fun j hj => by omega⟩ (fun i => rfl) ?_ (fun i hi => ?_)
 ·simp [Sub, lk]
 ·by_cases hlt : i < la.length
  ·by_cases hx : la.getD i 0 = lb.getD i 0
   ·(repeat (first | ((with_reducible refine rC rfl fun K hK => ?_); simp only [go_sem, seval, ↓reduceIte, show (i : Int) < (la.length : Int) by omega, show (i : Int) < (lb.length : Int) by omega, Aa la i hlt, Aa lb i (by omega), Int.toNat_natCast, Int.natCast_nonneg, show (la.getD i 0 != lb.getD i 0) = false by rw [hx]; simp, wid ((i : Int) + 1) (by omega) (by omega)]; refine hK _ _ _ ?_; clear hK K) | (with_reducible first | refine rN ?_ | refine sQ ?_ | refine tY hC hP ?_ | refine aY hC hM hP ?_ | refine kQ ?_ | refine lQ ?_ | refine eQ ?_ | refine bQ ?_ | refine cTa ?_ | refine cFa ?_) | simp only [qS, Nat.reduceEqDiff, ↓reduceIte]))
    refine ⟨i + 1, ⟨hlt, fun j hj => ?_⟩, by omega, by simp [Sub, lk]⟩
    by_cases e : j = i
    ·rw [e]; exact hx
    ·exact hi.2 j (by omega)
   ·(repeat (first | ((with_reducible refine rC rfl fun K hK => ?_); simp only [go_sem, seval, ↓reduceIte, show (i : Int) < (la.length : Int) by omega, show (i : Int) < (lb.length : Int) by omega, Aa la i hlt, Aa lb i (by omega), Int.toNat_natCast, Int.natCast_nonneg, show (la.getD i 0 != lb.getD i 0) = true by rw [bne_iff_ne]; exact hx]; refine hK _ _ _ ?_; clear hK K) | (with_reducible first | refine rN ?_ | refine sQ ?_ | refine tY hC hP ?_ | refine aY hC hM hP ?_ | refine kQ ?_ | refine lQ ?_ | refine eQ ?_ | refine bQ ?_ | refine cTa ?_ | refine cFa ?_) | simp only [qS, Nat.reduceEqDiff, ↓reduceIte]))
    refine rt1 ?_
    rw [eqB, decide_eq_false (fun e => hx (by rw [e]))]
  ·(repeat (first | ((with_reducible refine rC rfl fun K hK => ?_); simp only [go_sem, seval, ↓reduceIte, show ¬ (i : Int) < (la.length : Int) by omega]; refine hK _ _ _ ?_; clear hK K) | (with_reducible first | refine rN ?_ | refine sQ ?_ | refine tY hC hP ?_ | refine aY hC hM hP ?_ | refine kQ ?_ | refine lQ ?_ | refine eQ ?_ | refine bQ ?_ | refine cTa ?_ | refine cFa ?_) | simp only [qS, Nat.reduceEqDiff, ↓reduceIte]))
   refine rt1 ?_
   rw [eqB, decide_eq_true (Afr h (fun j hj => hi.2 j (by omega)))]
end Go.Proofs.YtapdekacpecgiaaGreat
